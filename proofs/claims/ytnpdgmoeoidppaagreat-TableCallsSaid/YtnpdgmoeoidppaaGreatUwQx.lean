import Derived.Test.YtnpdgmoeoidppaaGreatUgQx
import Derived.Test.YtnpdgmoeoidppaaGreatLxQx
/- law 17: what a push makes -/
namespace Go.Proofs.YtnpdgmoeoidppaaGreat
open Go.RowKit Go.Shelf
set_option linter.unusedVariables false
set_option linter.unusedSimpArgs false

theorem rd_none1 {w : World} {sz : Nat} {α : Type} {enc : α → List Value} : (Ch.rd none sz enc ([] : List α)).P w ∧ ∀ b, (Ch.rd none sz enc ([] : List α)).ok b → b < w.heap.size := ⟨⟨by simp [fl], (by simp [fl]), .inl rfl⟩, fun b hb => absurd hb.1 (by simp)⟩
theorem rd_fe {w : World} {l : List Le} {y : Le} (h : (Ch.rall (l.flatMap fm)).P w ∧ ∀ b, (Ch.rall (l.flatMap fm)).ok b → b < w.heap.size) (hm : y ∈ bm :: l) : ((Ch.rd y.A 3 gw y.e.addrs).P w ∧ ∀ b, (Ch.rd y.A 3 gw y.e.addrs).ok b → b < w.heap.size) ∧ ((Ch.rd y.B 1 fh y.e.ports).P w ∧ ∀ b, (Ch.rd y.B 1 fh y.e.ports).ok b → b < w.heap.size) := by
  rcases List.mem_cons.1 hm with rfl | hm
  · exact ⟨rd_none1, rd_none1⟩
  · exact ⟨cJ h (bM hm _ (hU _)), cJ h (bM hm _ (im _))⟩

theorem prod_eta {α β : Type} {p : α × β} {a : α} (h : p.1 = a) : p = (a, p.2) := by rw [← h]
theorem apply_bad {v : Int} {l : List Le} {full : Bool} {bs ver : Int} {put : List Le} {drop : List a6} (h : (bx v l full bs ver put drop).1 ≠ 0) : (bx v l full bs ver put drop).2 = [] := by
  revert h
  unfold bx
  split
  · exact fun _ => rfl
  · split
    · exact fun _ => rfl
    · split
      · exact fun _ => rfl
      · split
        · exact fun _ => rfl
        · split
          · exact fun _ => rfl
          · exact fun h => absurd rfl h
theorem same_ck {a b : a6} (h : gn a b = true) : bd a = 0 ∧ bd b = 0 ∧ a7 a = a7 b := by
  simp only [gn, Bool.and_eq_true, decide_eq_true_eq] at h
  have h9 : gn a b = true := by simp only [gn, Bool.and_eq_true, decide_eq_true_eq]; exact h
  exact ⟨h.1.1, h.1.2, (same2_iff h.1.1 h.1.2).1 h9⟩
section
variable {v : Int} {l : List Le} {full : Bool} {bs ver : Int} {put : List Le} {drop : List a6} {r : List Le} (hA : ApplyOk v l full bs ver put drop r) {n : a6}
include hA
end
theorem opt_e17 {o p : Option Le} (h : o.map (·.e) = p.map (·.e)) : o.isSome = p.isSome ∧ (o.getD bm).e = (p.getD bm).e := by
  cases o <;> cases p <;> first | exact ⟨rfl, rfl⟩ | (cases h; done) | exact ⟨rfl, Option.some.inj h⟩
theorem ap_tb {v : Int} {l : List Le} {full : Bool} {bs ver : Int} {put : List Le} {drop : List a6} (hok : TbOk l) (hpok : TbOk put) {ta : List Le} (ht : ta.map (·.e) = (bx v l full bs ver put drop).2.map (·.e)) : TbOk ta := by
  by_cases h : (bx v l full bs ver put drop).1 = 0
  · have hA := apply_ok.1 (prod_eta h)
    exact TbOk.eqs (l := (bx v l full bs ver put drop).2) (fun x hx => (hA.mem hx).elim (hok x) (hpok x)) ht
  · rw [apply_bad h] at ht
    cases ta with
    | nil => exact nofun
    | cons a r => cases ht
theorem ap_len {v : Int} {l : List Le} {full : Bool} {bs ver : Int} {put : List Le} {drop : List a6} {ta : List Le} (ht : ta.map (·.e) = (bx v l full bs ver put drop).2.map (·.e)) : ta.length ≤ 256 := by
  by_cases h : (bx v l full bs ver put drop).1 = 0
  · rw [eG ht]; exact (apply_ok.1 (prod_eta h)).len
  · rw [eG ht, apply_bad h]; exact Nat.zero_le _

theorem fe_bnd17 {l : List Le} (hok : TbOk l) {y : Le} (hm : y ∈ bm :: l) : EnB y.e := by
  have h1 : TbOk (bm :: l) := fun x hx => by
    rcases List.mem_cons.1 hx with rfl | hx
    · exact smE_ok (by decide)
    · exact hok x hx
  exact h1.mem17 hm

end Go.Proofs.YtnpdgmoeoidppaaGreat

/- tables: the document finds, tells apart -/
namespace Go.Proofs.YtnpdgmoeoidppaaGreat
open Go.RowKit Go.Shelf
set_option linter.unusedVariables false
set_option linter.unusedSimpArgs false

theorem g8 : Enters Tryz.prog 135 := enters_of Tryz.func135 (by kernel_rfl) rfl

theorem w_drawUC {x : Cx} {l : Fr} {L S : List Ch} {Q : Exit → Act → World → Prop} {id : Nat} {ol : List Oper} {L' : List Ch} (m : Nat) (hs : L'.Sublist L) (hro : x.ro = none) (hm : x.P.follows .mixedOrders = true) (h : WU x (Hp x.ok0 x.w0 L' S) m ol.toArray ol.length (Array.replicate ol.length false) l L S Q) : W x l L S (.region id ol.toArray true) Q := fun a w ha hw => by
  rw [hro]
  refine (wpIn_wide (n := 0)).2 (wp_region_any hm (jw (C := Hp x.ok0 x.w0 L' S) (m := m) _ _ _ _ ?_))
  have := h a { w with drawn := w.drawn + 1 } ha hw.drew
  simpa using this
theorem fU {x : Cx} {C : World → Prop} {l : Fr} {L S : List Ch} {Q : Exit → Act → World → Prop} {ops : Array Oper} {fuel m : Nat} {listed : Array Bool} {i d : Nat} {op : Op} {ty : TypeId} {pos : String} {af : Array Edge} {gd : Option (Nat × Bool)} {listed' : Array Bool} (hi : ops[i]? = some ⟨some d, op, ty, pos, af, gd⟩) (hw : ∀ a, Kn x.N x.ds l a → Region.wanted ⟨some d, op, ty, pos, af, gd⟩ (yielded ops a.tmps) = false)
    (hC : ∀ w, Hp x.ok0 x.w0 L S w → C w) (hN : Nat.blt d x.N = true) (hpk : jS Q)
    (hs : (Region.noSelect ops && Region.free .any ops listed i && (Region.ready .any ops listed).contains i && iK ops m i && Nat.blt i m && eL m listed && iP ops listed) = true) (hl : listed.setIfInBounds i true = listed')
    (k : WU x C m ops fuel listed' ((d, undef) :: l) L S Q) : WU x C m ops (fuel + 1) listed l L S Q := fun a w ha hh => by
  simp only [Bool.and_eq_true] at hs
  obtain ⟨⟨⟨⟨⟨⟨h1, h2⟩, h3⟩, h4⟩, h5⟩, h6⟩, h7⟩ := hs
  exact jN hi (Region.noSelect_spec h1) (fun c a w h => hpk c a w _ _ h) h4 (Nat.le_of_ble_eq_true h5) fuel listed a w h6 (i5 h7) (Region.free_spec hi h2) (by simpa using h3) (.inr ⟨hw a ha, rfl⟩) (hC w hh) (by rw [hl]; exact k _ w (ha.put (Nat.le_of_ble_eq_true hN) undef) hh)

theorem filt_at {α : Type} {f : α → a6} (d : α) : ∀ {l : List α} {k : Nat}, (l.map f).Nodup → k < l.length → l.filter (fun y => decide (f y ≠ f (l.getD k d))) = l.take k ++ l.drop (k + 1)
  | [], _, _, h => by cases h
  | p :: t, 0, hn, _ => by
    rw [List.map_cons, List.nodup_cons] at hn
    show List.filter (fun q => decide (f q ≠ f p)) (p :: t) = t
    rw [List.filter_cons, if_neg (by simp), List.filter_eq_self]
    exact fun q hq => decide_eq_true fun e => hn.1 (List.mem_map.2 ⟨q, hq, e⟩)
  | p :: t, k + 1, hn, hk => by
    rw [List.map_cons, List.nodup_cons] at hn
    have hk2 : k < t.length := by simpa using hk
    have hm9 : t.getD k d ∈ t := aZ hk2
    show List.filter (fun q => decide (f q ≠ f (t.getD k d))) (p :: t) = p :: (t.take k ++ t.drop (k + 1))
    rw [List.filter_cons, if_pos (by rw [decide_eq_true_eq]; exact fun e => hn.1 (List.mem_map.2 ⟨_, hm9, e.symm⟩)), filt_at d hn.2 hk2]
/-- What is found, going through. -/
def FP17 (l : List Le) (n : a6) (i : Int) : Prop := (i = -1 ∧ ∀ q, q < l.length → gn (l.getD q bm).e.host n = false) ∨ ∃ k : Nat, i = k ∧ k < l.length ∧ gn (l.getD k bm).e.host n = true
theorem fp_no {l : List Le} {n : a6} (h : TbE (l.map (·.e))) (hn : bd n = 0) (hs : ∀ q, q < l.length → gn (l.getD q bm).e.host n = false) : b8 (l.map (·.e)) (a7 n) = none := look_none.2 fun e he q => by
  obtain ⟨y, hy, rfl⟩ := List.mem_map.1 he
  obtain ⟨k, hk, rfl⟩ := List.mem_iff_getElem.1 hy
  have h1 := hs k hk
  rw [List.getD_eq_getElem?_getD, List.getElem?_eq_getElem hk, Option.getD_some] at h1
  rw [(same2_iff (h.ck _ he) hn).2 q] at h1; cases h1
theorem fp_yes {l : List Le} {n : a6} (h : TbE (l.map (·.e))) {k : Nat} (hk : k < l.length) (hs : gn (l.getD k bm).e.host n = true) : bd n = 0 ∧ a7 (l.getD k bm).e.host = a7 n ∧ b8 (l.map (·.e)) (a7 n) = some (l.getD k bm).e := by
  obtain ⟨h1, h2, h3⟩ := same_ck hs
  refine ⟨h2, h3, ?_⟩
  rw [← h3]; exact iV h.hosts (List.mem_map.2 ⟨_, aZ hk, rfl⟩)
theorem TbE.lkeys {l : List Le} (h : TbE (l.map (·.e))) : (l.map fun y : Le => a7 y.e.host).Nodup := by
  have := h.keys; rw [List.map_map] at this; exact this
theorem dp_snoc {l l2 : List Le} {i : Nat} (hi : i < l2.length) : dx l (l2.take (i + 1)) = dx l (l2.take i) ++ if b8 (l.map (·.e)) (a7 (l2.getD i bm).e.host) ≠ some (l2.getD i bm).e then [l2.getD i bm] else [] := by
  rw [dx, dx, dh l2 bm i hi, List.filter_append, List.filter_cons]
  simp only [decide_eq_true_eq]; rfl
theorem dd_snoc {l l2 : List Le} {i : Nat} (hi : i < l.length) : dd (l.take (i + 1)) l2 = dd (l.take i) l2 ++ if b8 (l2.map (·.e)) (a7 (l.getD i bm).e.host) = none then [(l.getD i bm).e.host] else [] := by
  rw [dd, dd, dh l bm i hi, List.filter_append, List.map_append, List.filter_cons]
  cases b8 (l2.map (·.e)) (a7 (l.getD i bm).e.host) <;> rfl

theorem gW (l : List Le) (A : Option Addr) (c : Nat) (n : a6) (hok : TbOk l) (hlen : l.length ≤ 1000000000) (hn : n.length ≤ 1000000000) : RC Tryz.prog 135 #[.slice A l.length c, .string (ba n)] [Ch.rd A 7 dF l] (α := {i : Int // FP17 l n i}) (fun i => .int .i64 i.1) (fun i => []) := by
 refine bK (args := [.slice A l.length c, .string (ba n)]) 20 Tryz.func135 rfl rfl rfl (fun w0 => ?_)
 refine ap ?_
 refine ae ?_
 refine aq (ai rfl) rfl rfl ?_
 refine aa ?_
 refine aj ?_
 refine ap ?_
 refine ap ?_
 refine ae ?_
 refine aq (ai rfl) rfl rfl ?_
 refine aa ?_
 refine aj ?_
 refine aS ?_
 refine cC (σ := Nat) [4, 5, 6, 7, 8, 9, 10, 11, 12, 13, 14, 15, 16, 17, 18, 19] (fun k => k ≤ l.length ∧ ∀ q, q < k → gn (l.getD q bm).e.host n = false) (fun k => l.length - k) (fun k => [(5, .int .i64 k)]) (0) ?_ ⟨rfl, trivial⟩ (fun k hI => ?_)
 exact ⟨Nat.zero_le _, nofun⟩
 refine ap ?_
 refine ap ?_
 refine ae ?_
 refine aq (am rfl) rfl rfl ?_
 refine aq (am rfl) rfl rfl ?_
 refine aq (bg Tryz.underlying22 rfl) rfl rfl ?_
 refine aq (bW rfl rfl) rfl rfl ?_
 refine ay (t := 9) rfl (fun h2_3 => ?_) (fun h2_3 => ?_)
 have hk : k < l.length := by omega
 have hh9 := (hok.mem17 (aZ (d := bm) hk)).h
 refine aa ?_
 refine aj ?_
 refine aA rfl ?_
 refine aQ ?_
 refine aj ?_
 refine ap ?_
 refine aS ?_
 refine ap ?_
 refine ae ?_
 refine aq (am rfl) rfl rfl ?_
 refine aq (am rfl) rfl rfl ?_
 refine aq (bB  Tryz.underlying22 aU rfl rfl (bF 0 rfl) rfl (by omega)) rfl rfl ?_
 refine aq (aB cM rfl) rfl rfl ?_
 refine aq (bZ bp bm bE rfl (bF 0 rfl) (by omega) rfl rfl) rfl rfl ?_
 refine aq (am rfl) rfl rfl ?_
 refine bD rfl ent_46 (c_ref02_Same _ _ (by omega) hn) rfl ?_
 refine bN (t := 18) rfl (fun h4_6 => ?_) (fun h4_6 => ?_)
 refine aa ?_
 refine aj ?_
 refine aA rfl ?_
 refine ap ?_
 refine ae ?_
 refine aq (am rfl) rfl rfl ?_
 refine aq (ai rfl) rfl rfl ?_
 refine aa ?_
 refine aj ?_
 refine aN ?_
 refine aJ ?_
 refine ax ?_
 refine bh ?_
 refine aJ ?_
 refine ax ?_
 refine aR (ts := [4]) rfl rfl rfl (fun w hw => ?_)
 focus first
   | exact ⟨⟨k, .inr ⟨k, rfl, hk, h4_6⟩⟩, rfl, hw.base, (hw.weak (List.nil_sublist _) (fun s hs => hs)).toNews⟩
   | exact ⟨⟨-1, .inl ⟨rfl, fun q hq => hI.2 q (by omega)⟩⟩, rfl, hw.base, (hw.weak (List.nil_sublist _) (fun s hs => hs)).toNews⟩
   | (trace_state; fail)
 refine aa ?_
 refine aj ?_
 refine aD rfl ?_
 refine aQ ?_
 refine bj ?_
 refine aj ?_
 refine ae ?_
 refine aq (am rfl) rfl rfl ?_
 refine aq (br rfl rfl (by omega) (by omega)) rfl rfl ?_
 refine aq (ai rfl) rfl rfl ?_
 refine aa ?_
 refine bv (k + 1) ?_ ?_ ⟨rfl, trivial⟩ (by repeat (first | exact trivial | refine ⟨rfl, ?_⟩)) aG
 refine ⟨by omega, fun q hq => ?_⟩
 by_cases e : q = k
 · rw [e]; exact h4_6
 · exact hI.2 q (by omega)
 omega
 refine aa ?_
 refine aj ?_
 refine aD rfl ?_
 refine bJ ?_
 refine aV ?_
 refine aX ?_
 refine a8 ?_
 refine aj ?_
 refine ap ?_
 refine ae ?_
 refine aq (ai rfl) rfl rfl ?_
 refine aa ?_
 refine aj ?_
 refine aN ?_
 refine aR (ts := [4]) rfl rfl rfl (fun w hw => ?_)
 focus first
   | exact ⟨⟨k, .inr ⟨k, rfl, hk, h4_6⟩⟩, rfl, hw.base, (hw.weak (List.nil_sublist _) (fun s hs => hs)).toNews⟩
   | exact ⟨⟨-1, .inl ⟨rfl, fun q hq => hI.2 q (by omega)⟩⟩, rfl, hw.base, (hw.weak (List.nil_sublist _) (fun s hs => hs)).toNews⟩
   | (trace_state; fail)

set_option maxRecDepth 100000 in
theorem c_r17Find (v : Int) (l : List Le) (A : Option Addr) (c : Nat) (n : a6) (hok : TbOk l) (hl : l.length ≤ 1000000) (hnl : n.length ≤ 1000000) : RC Tryz.prog 58 #[.agg (eE v A l.length c).toArray, .string (ba n)] [Ch.rd A 7 dF l, Ch.rall (l.flatMap fm)] (α := {r : Option Le // r.map (·.e) = gy v l n ∧ r.getD bm ∈ bm :: l}) (fun o => .tuple #[.agg (dF (o.1.getD bm)).toArray, .bool o.1.isSome]) (fun o => []) := by
 refine bK (args := [.agg (eE v A l.length c).toArray, .string (ba n)]) 23 Tryz.func58 rfl rfl rfl (fun w0 => ?_)
 refine ap ?_
 refine ae ?_
 refine cL rfl rfl rfl (fun b1 => ?_)
 refine bH aU rfl rfl (fun b2 => ?_)
 refine aq (ai rfl) rfl rfl ?_
 refine aa ?_
 refine aj ?_
 refine ap ?_
 refine ap ?_
 refine ae ?_
 refine aq (bu 1 bw rfl rfl rfl rfl) rfl rfl ?_
 refine bA rfl ent_62 rfl (eV _ _ _ _ hok (by omega)) (fun w hw => (az (bo 0 rfl hw) (az (bo 1 rfl hw) aY))) ?_
 refine aq (cO rfl rfl) rfl rfl ?_
 refine ay (t := 9) rfl (fun h1_2 => ?_) (fun h1_2 => ?_)
 refine aa ?_
 refine aj ?_
 refine aA rfl ?_
 refine ap ?_
 refine ae ?_
 refine aq (bP rfl (bu_34)) rfl rfl ?_
 refine aW aU rfl rfl rfl .z rfl rfl rfl rfl ?_
 refine aq (ai rfl) rfl rfl ?_
 refine aa ?_
 refine aj ?_
 refine aN ?_
 refine ax ?_
 refine dP (rs := [.cell 4 34, .tmp 5]) rfl (bQ 0 aU rfl rfl rfl rfl (dv rfl cG)) rfl (fun w hw => ?_)
 focus first
   | (have hE : gy v l n = none := by rw [gy, if_pos (.inl h1_2)]
      exact ⟨⟨none, by rw [hE]; rfl, .head _⟩, rfl, hw.base, (hw.weak (List.nil_sublist _) (fun s hs => hs)).toNews⟩)
   | (have hE : gy v l n = none := by
        by_cases hn : bd n = 0
        · rw [fS hT0 hn]; exact fp_no htb hn hno
        · exact if_pos (.inr hn)
      exact ⟨⟨none, by rw [hE]; rfl, .head _⟩, rfl, hw.base, (hw.weak (List.nil_sublist _) (fun s hs => hs)).toNews⟩)
   | exact ⟨⟨some (l.getD k9 bm), by rw [fS hT0 f1, f3]; rfl, .tail _ (aZ hk9)⟩, rfl, hw.base, (hw.weak (List.nil_sublist _) (fun s hs => hs)).toNews⟩
   | (trace_state; fail)
 have hT0 : bI v l = 0 := by omega
 refine aa ?_
 refine aj ?_
 refine aD rfl ?_
 refine aQ ?_
 refine aj ?_
 refine ap ?_
 refine ae ?_
 refine aq (aB bX rfl) rfl rfl ?_
 refine aq (aC 1 bz rfl rfl rfl) rfl rfl ?_
 refine aq (am rfl) rfl rfl ?_
 refine eT rfl g8 rfl (gW l A c n hok (by omega) (by omega)) (fun w hw => (az (bo 0 rfl hw) aY)) (fun ⟨i9, hfi⟩ => ?_)
 refine eo (t := 14) (.int .i64 i9) rfl rfl ?_
 have htb : TbE (l.map (·.e)) := gA (v := v) (by omega)
 refine aq (ai rfl) rfl rfl ?_
 refine aa ?_
 refine aj ?_
 refine ap ?_
 refine ap ?_
 refine ae ?_
 refine aq (am rfl) rfl rfl ?_
 refine aq (bW rfl rfl) rfl rfl ?_
 refine ay (t := 16) rfl (fun h4_1 => ?_) (fun h4_1 => ?_)
 obtain ⟨rfl, hno⟩ := hfi.resolve_right (fun ⟨k, h, _⟩ => by omega)
 refine aa ?_
 refine aj ?_
 refine aA rfl ?_
 refine ap ?_
 refine ae ?_
 refine aq (bP rfl (bu_34)) rfl rfl ?_
 refine aW aU rfl rfl rfl .z rfl rfl rfl rfl ?_
 refine aq (ai rfl) rfl rfl ?_
 refine aa ?_
 refine aj ?_
 refine aN ?_
 refine ax ?_
 refine dP (rs := [.cell 4 34, .tmp 5]) rfl (bQ 0 aU rfl rfl rfl rfl (dv rfl cG)) rfl (fun w hw => ?_)
 focus first
   | (have hE : gy v l n = none := by rw [gy, if_pos (.inl h1_2)]
      exact ⟨⟨none, by rw [hE]; rfl, .head _⟩, rfl, hw.base, (hw.weak (List.nil_sublist _) (fun s hs => hs)).toNews⟩)
   | (have hE : gy v l n = none := by
        by_cases hn : bd n = 0
        · rw [fS hT0 hn]; exact fp_no htb hn hno
        · exact if_pos (.inr hn)
      exact ⟨⟨none, by rw [hE]; rfl, .head _⟩, rfl, hw.base, (hw.weak (List.nil_sublist _) (fun s hs => hs)).toNews⟩)
   | exact ⟨⟨some (l.getD k9 bm), by rw [fS hT0 f1, f3]; rfl, .tail _ (aZ hk9)⟩, rfl, hw.base, (hw.weak (List.nil_sublist _) (fun s hs => hs)).toNews⟩
   | (trace_state; fail)
 obtain ⟨k9, rfl, hk9, hs9⟩ := hfi.resolve_left (fun h => by omega)
 obtain ⟨f1, f2, f3⟩ := fp_yes htb hk9 hs9
 refine aa ?_
 refine aj ?_
 refine aD rfl ?_
 refine aQ ?_
 refine aj ?_
 refine ap ?_
 refine ae ?_
 refine aq (aB bX rfl) rfl rfl ?_
 refine aq (aC 1 bz rfl rfl rfl) rfl rfl ?_
 refine aq (am rfl) rfl rfl ?_
 refine aq (bB  Tryz.underlying22 aU rfl rfl (bF 0 rfl) rfl (by omega)) rfl rfl ?_
 refine aq (b6 bp bm aU rfl (bF 0 rfl) (by omega) rfl rfl rfl) rfl rfl ?_
 refine aW aU rfl rfl rfl .z rfl rfl rfl rfl ?_
 refine aq (ai rfl) rfl rfl ?_
 refine aa ?_
 refine aj ?_
 refine aN ?_
 refine dP (rs := [.cell 4 34, .tmp 5]) rfl (bQ 0 aU rfl rfl rfl rfl (dv rfl cG)) rfl (fun w hw => ?_)
 focus first
   | (have hE : gy v l n = none := by rw [gy, if_pos (.inl h1_2)]
      exact ⟨⟨none, by rw [hE]; rfl, .head _⟩, rfl, hw.base, (hw.weak (List.nil_sublist _) (fun s hs => hs)).toNews⟩)
   | (have hE : gy v l n = none := by
        by_cases hn : bd n = 0
        · rw [fS hT0 hn]; exact fp_no htb hn hno
        · exact if_pos (.inr hn)
      exact ⟨⟨none, by rw [hE]; rfl, .head _⟩, rfl, hw.base, (hw.weak (List.nil_sublist _) (fun s hs => hs)).toNews⟩)
   | exact ⟨⟨some (l.getD k9 bm), by rw [fS hT0 f1, f3]; rfl, .tail _ (aZ hk9)⟩, rfl, hw.base, (hw.weak (List.nil_sublist _) (fun s hs => hs)).toNews⟩
   | (trace_state; fail)

theorem c_r17Autos (v : Int) (l : List Le) (A : Option Addr) (c : Nat) (hok : TbOk l) (hlen : l.length ≤ 1000000000) : RC Tryz.prog 64 #[.agg (eE v A l.length c).toArray] [Ch.rd A 7 dF l, Ch.rall (l.flatMap fm)] (α := Option Addr × Nat) (fun p => .slice p.1 (auL l).length p.2) (fun p => [Ch.ls p.1 p.2 26 1 dD (auL l)]) := by
 refine bK (args := [.agg (eE v A l.length c).toArray]) 29 Tryz.func64 rfl rfl rfl (fun w0 => ?_)
 refine ap ?_
 refine ae ?_
 refine cL rfl rfl rfl (fun b1 => ?_)
 refine aq (ai rfl) rfl rfl ?_
 refine aa ?_
 refine aj ?_
 refine ap ?_
 refine ae ?_
 refine aq (ai rfl) rfl rfl ?_
 refine aa ?_
 refine aj ?_
 refine ap ?_
 refine ap ?_
 refine ae ?_
 refine aq (ai rfl) rfl rfl ?_
 refine aa ?_
 refine aj ?_
 refine aS ?_
 refine cz (fun w h => h.nilsl 26 1) ?_
 refine dn (σ := Nat × List a6 × Option Addr × Nat) [3, 4, 5, 6, 7, 8, 9, 10, 11, 12, 13, 14, 15, 16, 17, 18, 19, 20, 21, 22, 23, 24, 25, 26, 27] (fun q => q.1 ≤ l.length ∧ q.2.1 = auL (l.take q.1)) (fun q => l.length - q.1) (fun q => [(4, .int .i64 q.1), (3, .slice q.2.2.1 q.2.1.length q.2.2.2)]) (fun q => Ch.ls q.2.2.1 q.2.2.2 26 1 dD q.2.1) ((0, [], none, 0)) ?_ ⟨rfl, rfl, trivial⟩ rfl (fun q hI => ?_)
 exact ⟨Nat.zero_le _, rfl⟩
 obtain ⟨i, acc, Aq, cq⟩ := q
 dsimp only at hI ⊢
 refine ap ?_
 refine ap ?_
 refine ae ?_
 refine aq (am rfl) rfl rfl ?_
 refine aq (aB bX rfl) rfl rfl ?_
 refine aq (aC 1 bz rfl rfl rfl) rfl rfl ?_
 refine aq (bg Tryz.underlying22 rfl) rfl rfl ?_
 refine aq (bW rfl rfl) rfl rfl ?_
 refine ay (t := 9) rfl (fun h3_4 => ?_) (fun h3_4 => ?_)
 have hi : i < l.length := by omega
 have hal := au_take l i
 rw [← hI.2] at hal
 refine aa ?_
 refine aj ?_
 refine aA rfl ?_
 refine aQ ?_
 refine aj ?_
 refine ap ?_
 refine aS ?_
 refine ap ?_
 refine ae ?_
 refine aq (aB bX rfl) rfl rfl ?_
 refine aq (aC 1 bz rfl rfl rfl) rfl rfl ?_
 refine aq (am rfl) rfl rfl ?_
 refine aq (bB  Tryz.underlying22 aU rfl rfl (bF 0 rfl) rfl (by omega)) rfl rfl ?_
 refine aq (aB gH rfl) rfl rfl ?_
 refine aq (y_ldm 1 bp bm cX rfl (bF 0 rfl) (by omega) rfl rfl) rfl rfl ?_
 refine aq (cY rfl rfl) rfl rfl ?_
 refine ay (t := 18) rfl (fun h5_6 => ?_) (fun h5_6 => ?_)
 refine aa ?_
 refine aj ?_
 refine aA rfl ?_
 refine ae ?_
 refine aq (am rfl) rfl rfl ?_
 refine aq (aB bX rfl) rfl rfl ?_
 refine aq (aC 1 bz rfl rfl rfl) rfl rfl ?_
 refine aq (am rfl) rfl rfl ?_
 refine aq (bB  Tryz.underlying22 aU rfl rfl (bF 0 rfl) rfl (by omega)) rfl rfl ?_
 refine aq (aB cM rfl) rfl rfl ?_
 refine aq (bZ bp bm bE rfl (bF 0 rfl) (by omega) rfl rfl) rfl rfl ?_
 refine bY (vs := [_]) ([(l.getD i bm).e.host] : List (a6)) bV Tryz.underlying59 bE rfl rfl rfl rfl rfl rfl (fun As2 => ?_)
 refine cv (enc := dD) (sz := 1) [(l.getD i bm).e.host] Tryz.underlying59 bE rfl rfl rfl (fun A c => (.s (.z))) (d5 0 Tryz.underlying59 rfl) (by simp only [List.length_cons, List.length_nil, Nat.zero_add]; omega) (by simp only [List.length_cons, List.length_nil, Nat.zero_add]; omega) rfl (fun A2 c2 => ?_)
 refine aq (ai rfl) rfl rfl ?_
 refine aa ?_
 refine bj ?_
 refine aj ?_
 refine ae ?_
 refine aq (am rfl) rfl rfl ?_
 refine aq (br rfl rfl (by omega) (by omega)) rfl rfl ?_
 refine aq (ai rfl) rfl rfl ?_
 refine aa ?_
 refine bv ((i + 1, acc ++ [(l.getD i bm).e.host], A2, c2)) ?_ ?_ ⟨rfl, rfl, trivial⟩ (by repeat (first | exact trivial | refine ⟨rfl, ?_⟩)) (bq 1)
 exact ⟨by show i + 1 ≤ _; omega, by show _ = auL (l.take (i + 1)); rw [au_step hi, if_pos h5_6, ← hI.2]⟩
 show l.length - (i + 1) < l.length - i
 omega
 refine aa ?_
 refine aj ?_
 refine aD rfl ?_
 refine aQ ?_
 refine bj ?_
 refine aj ?_
 refine ae ?_
 refine aq (am rfl) rfl rfl ?_
 refine aq (br rfl rfl (by omega) (by omega)) rfl rfl ?_
 refine aq (ai rfl) rfl rfl ?_
 refine aa ?_
 refine bv ((i + 1, acc, Aq, cq)) ?_ ?_ ⟨rfl, rfl, trivial⟩ (by repeat (first | exact trivial | refine ⟨rfl, ?_⟩)) aG
 exact ⟨by show i + 1 ≤ _; omega, by show _ = auL (l.take (i + 1)); rw [au_step hi, if_neg h5_6, ← hI.2]; exact (List.append_nil _).symm⟩
 show l.length - (i + 1) < l.length - i
 omega
 refine aa ?_
 refine aj ?_
 refine aD rfl ?_
 refine bJ ?_
 refine aV ?_
 refine aX ?_
 refine a8 ?_
 refine aj ?_
 refine ap ?_
 refine ae ?_
 refine aq (am rfl) rfl rfl ?_
 refine aq (ai rfl) rfl rfl ?_
 refine aa ?_
 refine aj ?_
 refine aN ?_
 refine aR (ts := [2]) rfl rfl rfl (fun w hw => ?_)
 have hE : acc = auL l := by rw [hI.2, List.take_of_length_le (by omega)]
 subst hE
 exact ⟨(Aq, cq), rfl, hw.base, (hw.weak (.cons_cons _ (.cons _ .slnil)) (fun s hs => hs)).toNews⟩

theorem df_eq9 {v v2 : Int} {l l2 : List Le} (h1 : bI v l = 0) (h2 : bI v2 l2 = 0) : dfP v l v2 l2 = dx l l2 ∧ dfD v l v2 l2 = dd l l2 ∧ ∀ x, dfV v l v2 l2 x = x := ⟨if_pos ⟨h1, h2⟩, if_pos ⟨h1, h2⟩, fun x => if_pos ⟨h1, h2⟩⟩

set_option maxRecDepth 100000 in
set_option maxHeartbeats 4000000 in
theorem eu (v : Int) (l : List Le) (A : Option Addr) (c : Nat) (v2 : Int) (l2 : List Le) (A2 : Option Addr) (c2 : Nat) (hok : TbOk l) (hok2 : TbOk l2) (hl : l.length ≤ 1000) (hl2 : l2.length ≤ 1000) : RC Tryz.prog 60 #[.agg (eE v A l.length c).toArray, .agg (eE v2 A2 l2.length c2).toArray] [Ch.rd A 7 dF l, Ch.rall (l.flatMap fm), Ch.rd A2 7 dF l2, Ch.rall (l2.flatMap fm)] (α := (Option Addr × Nat) × Option Addr × Nat) (fun p => .agg (er false (dfV v l v2 l2 v) (dfV v l v2 l2 v2) p.1.1 (dfP v l v2 l2).length p.1.2 p.2.1 (dfD v l v2 l2).length p.2.2).toArray) (fun p => [Ch.ls p.2.1 p.2.2 26 1 dD (dfD v l v2 l2), Ch.ls p.1.1 p.1.2 34 7 dF (dfP v l v2 l2)]) := by
 refine bK (args := [.agg (eE v A l.length c).toArray, .agg (eE v2 A2 l2.length c2).toArray]) 94 Tryz.func60 rfl rfl rfl (fun w0 => ?_)
 refine ap ?_
 refine ae ?_
 refine cL rfl rfl rfl (fun b1 => ?_)
 refine cL rfl rfl rfl (fun b2 => ?_)
 refine bH bL rfl rfl (fun b3 => ?_)
 refine aa ?_
 refine aj ?_
 refine ap ?_
 refine ap ?_
 refine ae ?_
 refine aq (bu 2 bw rfl rfl rfl rfl) rfl rfl ?_
 refine bA rfl ent_62 rfl (eV _ _ _ _ hok (by omega)) (fun w hw => (az (bo 0 rfl hw) (az (bo 1 rfl hw) aY))) ?_
 refine aq (cO rfl rfl) rfl rfl ?_
 refine ay (t := 11) rfl (fun h1_2 => ?_) (fun h1_2 => ?_)
 refine aq (am rfl) rfl rfl ?_
 refine ar rfl rfl rfl rfl ?_
 refine ar rfl rfl rfl rfl ?_
 refine ar rfl rfl rfl rfl ?_
 refine aq (aH rfl rfl) rfl rfl ?_
 refine aa ?_
 refine aj ?_
 refine aA rfl ?_
 refine ap ?_
 refine ae ?_
 refine aq (bP rfl (bu_103)) rfl rfl ?_
 refine aW bL rfl rfl rfl .z rfl rfl rfl rfl ?_
 refine aa ?_
 refine aj ?_
 refine aN ?_
 refine ax ?_
 refine dP (rs := [.cell 4 103]) rfl (bQ 0 bL rfl rfl rfl rfl cG) rfl (fun w hw => ?_)
 have hn9 : ¬ (bI v l = 0 ∧ bI v2 l2 = 0) := fun q => by first | exact h1_2 q.1 | exact h1_6 q.2
 have e1 : dfP v l v2 l2 = [] := if_neg hn9
 have e2 : dfD v l v2 l2 = [] := if_neg hn9
 have e3 : ∀ x, dfV v l v2 l2 x = 0 := fun x => if_neg hn9
 rw [e1, e2, e3, e3]
 exact ⟨((none, 0), none, 0), rfl, hw.base, (((hw.weak (List.nil_sublist _) (fun s hs => hs)).nilsl 34 7).nilsl 26 1).toNews⟩
 refine aq (am rfl) rfl rfl ?_
 refine au rfl rfl ?_
 refine aq (bu 1 bw rfl rfl rfl rfl) rfl rfl ?_
 refine au rfl rfl ?_
 refine bA rfl ent_62 rfl (eV _ _ _ _ hok2 (by omega)) (fun w hw => (az (bo 2 rfl hw) (az (bo 3 rfl hw) aY))) ?_
 refine au rfl rfl ?_
 refine aq (cO rfl rfl) rfl rfl ?_
 refine ay (t := 15) rfl (fun h1_6 => ?_) (fun h1_6 => ?_)
 refine aq (aF rfl rfl) rfl rfl ?_
 refine aa ?_
 refine aj ?_
 refine aA rfl ?_
 refine ap ?_
 refine ae ?_
 refine aq (bP rfl (bu_103)) rfl rfl ?_
 refine aW bL rfl rfl rfl .z rfl rfl rfl rfl ?_
 refine aa ?_
 refine aj ?_
 refine aN ?_
 refine ax ?_
 refine dP (rs := [.cell 4 103]) rfl (bQ 0 bL rfl rfl rfl rfl cG) rfl (fun w hw => ?_)
 have hn9 : ¬ (bI v l = 0 ∧ bI v2 l2 = 0) := fun q => by first | exact h1_2 q.1 | exact h1_6 q.2
 have e1 : dfP v l v2 l2 = [] := if_neg hn9
 have e2 : dfD v l v2 l2 = [] := if_neg hn9
 have e3 : ∀ x, dfV v l v2 l2 x = 0 := fun x => if_neg hn9
 rw [e1, e2, e3, e3]
 exact ⟨((none, 0), none, 0), rfl, hw.base, (((hw.weak (List.nil_sublist _) (fun s hs => hs)).nilsl 34 7).nilsl 26 1).toNews⟩
 refine aq (aF rfl rfl) rfl rfl ?_
 refine aa ?_
 refine aj ?_
 refine aD rfl ?_
 refine aQ ?_
 refine aj ?_
 refine ap ?_
 refine ae ?_
 refine aq (aB dZ rfl) rfl rfl ?_
 refine aq (aC 2 cX rfl rfl rfl) rfl rfl ?_
 refine aq (aB dZ rfl) rfl rfl ?_
 refine aq (aC 1 cX rfl rfl rfl) rfl rfl ?_
 refine aq (bP rfl (bu_103_1_2 _ _)) rfl rfl ?_
 refine bH bL rfl rfl (fun b4 => ?_)
 refine aW bL rfl rfl rfl .z rfl rfl rfl rfl ?_
 refine aa ?_
 refine aj ?_
 refine ap ?_
 refine ap ?_
 have hT1 : bI v l = 0 := by omega
 have hT2 : bI v2 l2 = 0 := by omega
 have hte1 := gA hT1
 have hte2 := gA hT2
 refine ae ?_
 refine aq (ai rfl) rfl rfl ?_
 refine aa ?_
 refine aj ?_
 refine aS ?_
 refine cz (fun w h => h.nilsl 34 7) ?_
 refine cz (fun w h => (h.weak (.cons_cons _ (.cons_cons _ (.cons_cons _ (.cons_cons _ (.cons_cons _ .slnil))))) (fun s hs => hs))) ?_
 refine w_loop2 (σ := Nat × List Le × Option Addr × Nat) [6, 7, 23, 24, 25, 26, 27, 28, 29, 30, 31, 32, 33, 34, 35, 36, 37, 38, 39, 40, 41, 42, 43, 44, 45, 46, 47, 48, 49, 50, 51, 52, 53, 54, 55, 56, 57, 58, 59, 60, 61, 62, 63, 64] (fun z => z.1 ≤ l2.length ∧ z.2.1 = dx l (l2.take z.1)) (fun z => l2.length - z.1) (fun z => [(6, .int .i64 z.1)]) (fun z => Ch.ls z.2.2.1 z.2.2.2 34 7 dF z.2.1) (fun z => Ch.row b4 (er false v v2 z.2.2.1 z.2.1.length z.2.2.2 none 0 0) 103) ((0, [], none, 0)) ?_ ⟨rfl, trivial⟩ rfl rfl (fun z hI => ?_)
 exact ⟨Nat.zero_le _, rfl⟩
 obtain ⟨i, pu, Ax, cx⟩ := z
 dsimp only at hI ⊢
 refine ap ?_
 refine ap ?_
 refine ae ?_
 refine aq (am rfl) rfl rfl ?_
 refine aq (aB bX rfl) rfl rfl ?_
 refine aq (aC 3 bz rfl rfl rfl) rfl rfl ?_
 refine aq (bg Tryz.underlying22 rfl) rfl rfl ?_
 refine aq (bW rfl rfl) rfl rfl ?_
 refine ay (t := 27) rfl (fun h5_4 => ?_) (fun h5_4 => ?_)
 have hi : i < l2.length := by omega
 have hb2 := hok2.mem17 (aZ (d := bm) hi)
 have hck2 : bd (l2.getD i bm).e.host = 0 := hte2.ck _ (List.mem_map.2 ⟨_, aZ hi, rfl⟩)
 have hpl : pu.length ≤ i := by rw [hI.2]; exact Nat.le_trans (diffPut_len _ _) (by rw [List.length_take]; omega)
 refine aa ?_
 refine aj ?_
 refine aA rfl ?_
 refine aQ ?_
 refine aj ?_
 refine ap ?_
 refine aS ?_
 refine ap ?_
 refine e7 10 rfl mixed ?_
 refine aI (i := 0) rfl ak (aB bX rfl) aG aG rfl (ah (ao (ah (av (ao (ah aw)))))) (by kernel_rfl) rfl ?_
 refine aI (i := 1) rfl ak (aC 4 bz rfl rfl rfl) aG aG rfl (ah (ao (ah (av (ao (ah aw)))))) (by kernel_rfl) rfl ?_
 refine aI (i := 2) rfl ak (aB bX rfl) aG aG rfl (ah (ao (ah (av (ao (ah aw)))))) (by kernel_rfl) rfl ?_
 refine aI (i := 3) rfl ak (aC 3 bz rfl rfl rfl) aG aG rfl (ah (ao (ah (av (ao (ah aw)))))) (by kernel_rfl) rfl ?_
 refine aI (i := 4) rfl ak (am rfl) aG aG rfl (ah (ao (ah (av (ao (ah aw)))))) (by kernel_rfl) rfl ?_
 refine aI (i := 5) rfl ak (bB  Tryz.underlying22 aU rfl rfl (bF 2 rfl) rfl (by omega)) aG aG rfl (ah (ao (ah (av (ao (ah aw)))))) (by kernel_rfl) rfl ?_
 refine aI (i := 6) rfl ak (aB cM rfl) aG aG rfl (ah (ao (ah (av (ao (ah aw)))))) (by kernel_rfl) rfl ?_
 refine aI (i := 7) rfl ak (bZ bp bm bE rfl (bF 2 rfl) (by omega) rfl rfl) aG aG rfl (ah (ao (ah (av (ao (ah aw)))))) (by kernel_rfl) rfl ?_
 refine bl (i := 8) rfl rfl rfl (bf rfl g8) (by kernel_rfl) rfl ?_
 refine eT rfl g8 rfl (gW l A c (l2.getD i bm).e.host hok (by omega) (by have := hb2.h; omega)) (fun w hw => (az (bo 0 rfl hw) aY)) (fun ⟨i9, hfi⟩ => ?_)
 refine aa ?_
 refine aT aG ?_
 refine dT (t := 38) (.int .i64 i9) rfl rfl ?_
 refine aI (i := 9) rfl ak (ai rfl) aG aG rfl (ah (ao (ah (av (ao (ah aw)))))) (by kernel_rfl) rfl ?_
 refine cw (by kernel_rfl) ?_
 refine aj ?_
 refine ap ?_
 refine e7 16 rfl mixed ?_
 refine aI (i := 0) rfl ak (am rfl) aG aG rfl (ah (ao (ah (av (ao (ah aw)))))) (by kernel_rfl) rfl ?_
 refine aI (i := 1) rfl ak (bW rfl rfl) aG aG rfl (ah (ao (ah (av (ao (ah aw)))))) (by kernel_rfl) rfl ?_
 refine wu_splitp (t := 40) rfl (fun h8_1 => ?_) (fun h8_1 => ?_)
 obtain ⟨rfl, hno⟩ := hfi.resolve_right (fun ⟨k, h, _⟩ => by omega)
 have hno9 := fp_no hte1 hck2 hno
 refine aI (i := 2) rfl ak (am rfl) aG aG rfl (ah (ao (ah (av (ao (ah aw)))))) (by kernel_rfl) rfl ?_
 refine fU (i := 3) rfl (bC rfl rfl rfl) aG rfl (ah (ao (ah (av (ao (ah aw)))))) (by kernel_rfl) rfl ?_
 refine fU (i := 4) rfl (bC rfl rfl rfl) aG rfl (ah (ao (ah (av (ao (ah aw)))))) (by kernel_rfl) rfl ?_
 refine fU (i := 5) rfl (bC rfl rfl rfl) aG rfl (ah (ao (ah (av (ao (ah aw)))))) (by kernel_rfl) rfl ?_
 refine fU (i := 6) rfl (bC rfl rfl rfl) aG rfl (ah (ao (ah (av (ao (ah aw)))))) (by kernel_rfl) rfl ?_
 refine fU (i := 7) rfl (bC rfl rfl rfl) aG rfl (ah (ao (ah (av (ao (ah aw)))))) (by kernel_rfl) rfl ?_
 refine fU (i := 8) rfl (bC rfl rfl rfl) aG rfl (ah (ao (ah (av (ao (ah aw)))))) (by kernel_rfl) rfl ?_
 refine fU (i := 9) rfl (bC rfl rfl rfl) aG rfl (ah (ao (ah (av (ao (ah aw)))))) (by kernel_rfl) rfl ?_
 refine fU (i := 10) rfl (bC rfl rfl rfl) aG rfl (ah (ao (ah (av (ao (ah aw)))))) (by kernel_rfl) rfl ?_
 refine fU (i := 11) rfl (bC rfl rfl rfl) aG rfl (ah (ao (ah (av (ao (ah aw)))))) (by kernel_rfl) rfl ?_
 refine fU (i := 12) rfl (bC rfl rfl rfl) aG rfl (ah (ao (ah (av (ao (ah aw)))))) (by kernel_rfl) rfl ?_
 refine fU (i := 13) rfl (bC rfl rfl rfl) aG rfl (ah (ao (ah (av (ao (ah aw)))))) (by kernel_rfl) rfl ?_
 refine fU (i := 14) rfl (bC rfl rfl rfl) aG rfl (ah (ao (ah (av (ao (ah aw)))))) (by kernel_rfl) rfl ?_
 refine aI (i := 15) rfl ak (aH rfl rfl) aG aG rfl (ah (ao (ah (av (ao (ah aw)))))) (by kernel_rfl) rfl ?_
 refine cw (by kernel_rfl) ?_
 refine aj ?_
 refine aA rfl ?_
 refine w_drawUC 10 (.cons _ (.cons_cons _ (.cons_cons _ (.cons_cons _ (.cons_cons _ .slnil))))) rfl mixed ?_
 refine aI (i := 0) rfl ak (aB cE rfl) (fun w h => h.weak (.cons _ (.cons_cons _ (.cons_cons _ (.cons_cons _ (.cons_cons _ .slnil))))) (fun s hs => hs)) aG rfl (ao (ah (av (ao (ah aw))))) (by kernel_rfl) rfl ?_
 refine aI (i := 1) rfl ak (aC 0 bz rfl rfl rfl) (fun w h => h.weak (.cons _ (.cons_cons _ (.cons_cons _ (.cons_cons _ (.cons_cons _ .slnil))))) (fun s hs => hs)) aG rfl (ao (ah (av (ao (ah aw))))) (by kernel_rfl) rfl ?_
 refine aI (i := 2) rfl ak (aB bX rfl) (fun w h => h.weak (.cons _ (.cons_cons _ (.cons_cons _ (.cons_cons _ (.cons_cons _ .slnil))))) (fun s hs => hs)) aG rfl (ao (ah (av (ao (ah aw))))) (by kernel_rfl) rfl ?_
 refine aI (i := 3) rfl ak (aC 2 bz rfl rfl rfl) (fun w h => h.weak (.cons _ (.cons_cons _ (.cons_cons _ (.cons_cons _ (.cons_cons _ .slnil))))) (fun s hs => hs)) aG rfl (ao (ah (av (ao (ah aw))))) (by kernel_rfl) rfl ?_
 refine aI (i := 4) rfl ak (am rfl) (fun w h => h.weak (.cons _ (.cons_cons _ (.cons_cons _ (.cons_cons _ (.cons_cons _ .slnil))))) (fun s hs => hs)) aG rfl (ao (ah (av (ao (ah aw))))) (by kernel_rfl) rfl ?_
 refine aI (i := 5) rfl ak (bB  Tryz.underlying22 aU rfl rfl (bF 2 rfl) rfl (by omega)) (fun w h => h.weak (.cons _ (.cons_cons _ (.cons_cons _ (.cons_cons _ (.cons_cons _ .slnil))))) (fun s hs => hs)) aG rfl (ao (ah (av (ao (ah aw))))) (by kernel_rfl) rfl ?_
 refine aI (i := 6) rfl ak (b6 bp bm aU rfl (bF 2 rfl) (by omega) rfl rfl rfl) (fun w h => h.weak (.cons _ (.cons_cons _ (.cons_cons _ (.cons_cons _ (.cons_cons _ .slnil))))) (fun s hs => hs)) aG rfl (ao (ah (av (ao (ah aw))))) (by kernel_rfl) rfl ?_
 refine bl (i := 7) rfl rfl rfl (fun _ _ _ => aM (by kernel_rfl)) (by kernel_rfl) rfl ?_
 refine bY (vs := [_]) ([l2.getD i bm] : List (Le)) bp Tryz.underlying22 aU rfl rfl rfl rfl rfl rfl (fun As6 => ?_)
 refine aa ?_
 refine aT (fun w h => h.weak (.cons _ (.cons _ (.cons_cons _ (.cons_cons _ (.cons_cons _ (.cons_cons _ .slnil)))))) (fun s hs => hs)) ?_
 refine bl (i := 8) rfl rfl rfl (fun _ _ _ => aM (by kernel_rfl)) (by kernel_rfl) rfl ?_
 refine cv (enc := dF) (sz := 7) [l2.getD i bm] Tryz.underlying22 aU rfl rfl rfl (fun A c => (.s (.z))) (d5 0 Tryz.underlying22 rfl) (by simp only [List.length_cons, List.length_nil]; omega) (by simp only [List.length_cons, List.length_nil]; omega) rfl (fun A6 c6 => ?_)
 refine aa ?_
 refine aT (fun w h => h.weak (.cons _ (.cons _ (.cons_cons _ (.cons_cons _ (.cons_cons _ (.cons_cons _ .slnil)))))) (fun s hs => hs)) ?_
 refine aI (i := 9) rfl ak (aB cE rfl) (fun w h => h.weak (.cons _ (.cons _ (.cons_cons _ (.cons_cons _ (.cons_cons _ (.cons_cons _ .slnil)))))) (fun s hs => hs)) aG rfl (ao (ah (av (ao (ah aw))))) (by kernel_rfl) rfl ?_
 refine bl (i := 10) rfl rfl rfl (fun _ _ _ => aM (by kernel_rfl)) (by kernel_rfl) rfl ?_
 refine aW bz rfl rfl rfl (.s (.s (.z))) rfl rfl rfl rfl ?_
 refine aa ?_
 refine cW rfl ?_
 refine cw (by kernel_rfl) ?_
 refine bj ?_
 refine aj ?_
 refine ae ?_
 refine aq (am rfl) rfl rfl ?_
 refine aq (br rfl rfl (by omega) (by omega)) rfl rfl ?_
 refine aq (ai rfl) rfl rfl ?_
 refine aa ?_
 refine bv ((i + 1, pu ++ [l2.getD i bm], A6, c6)) ?_ ?_ ⟨rfl, trivial⟩ (by repeat (first | exact trivial | refine ⟨rfl, ?_⟩)) (fun w h => (h.weak (.cons _ (.cons_cons _ (.cons_cons _ (.cons_cons _ (.cons_cons _ (.cons_cons _ .slnil)))))) (fun s hs => hs)))
 exact ⟨by show i + 1 ≤ _; omega, by show _ = dx l (l2.take (i + 1)); rw [dp_snoc hi, ← hI.2, if_pos (by first | exact hne9 | (rw [hno9]; exact fun q => nomatch q))]⟩
 show l2.length - (i + 1) < l2.length - i
 omega
 obtain ⟨k9, rfl, hk9, hs9⟩ := hfi.resolve_left (fun h => by omega)
 obtain ⟨f1, f2, f3⟩ := fp_yes hte1 hk9 hs9
 have hbk := hok.mem17 (aZ (d := bm) hk9)
 refine aI (i := 2) rfl ak (am rfl) aG aG rfl (ah (ao (ah (av (ao (ah aw)))))) (by kernel_rfl) rfl ?_
 refine aI (i := 3) rfl (aL rfl rfl) (aB bX rfl) aG aG rfl (ah (ao (ah (av (ao (ah aw)))))) (by kernel_rfl) rfl ?_
 refine aI (i := 4) rfl (aL rfl rfl) (aC 4 bz rfl rfl rfl) aG aG rfl (ah (ao (ah (av (ao (ah aw)))))) (by kernel_rfl) rfl ?_
 refine aI (i := 5) rfl (aL rfl rfl) (am rfl) aG aG rfl (ah (ao (ah (av (ao (ah aw)))))) (by kernel_rfl) rfl ?_
 refine aI (i := 6) rfl (aL rfl rfl) (bB  Tryz.underlying22 aU rfl rfl (bF 0 rfl) rfl (by omega)) aG aG rfl (ah (ao (ah (av (ao (ah aw)))))) (by kernel_rfl) rfl ?_
 refine aI (i := 7) rfl (aL rfl rfl) (b6 bp bm aU rfl (bF 0 rfl) (by omega) rfl rfl rfl) aG aG rfl (ah (ao (ah (av (ao (ah aw)))))) (by kernel_rfl) rfl ?_
 refine aI (i := 8) rfl (aL rfl rfl) (aB bX rfl) aG aG rfl (ah (ao (ah (av (ao (ah aw)))))) (by kernel_rfl) rfl ?_
 refine aI (i := 9) rfl (aL rfl rfl) (aC 3 bz rfl rfl rfl) aG aG rfl (ah (ao (ah (av (ao (ah aw)))))) (by kernel_rfl) rfl ?_
 refine aI (i := 10) rfl (aL rfl rfl) (am rfl) aG aG rfl (ah (ao (ah (av (ao (ah aw)))))) (by kernel_rfl) rfl ?_
 refine aI (i := 11) rfl (aL rfl rfl) (bB  Tryz.underlying22 aU rfl rfl (bF 2 rfl) rfl (by omega)) aG aG rfl (ah (ao (ah (av (ao (ah aw)))))) (by kernel_rfl) rfl ?_
 refine aI (i := 12) rfl (aL rfl rfl) (b6 bp bm aU rfl (bF 2 rfl) (by omega) rfl rfl rfl) aG aG rfl (ah (ao (ah (av (ao (ah aw)))))) (by kernel_rfl) rfl ?_
 refine bl (i := 13) rfl rfl rfl (bf rfl ent_22) (by kernel_rfl) rfl ?_
 refine au rfl rfl ?_
 refine bA rfl ent_22 rfl (hZ (l.getD k9 bm).e (l.getD k9 bm).A (l.getD k9 bm).B (l.getD k9 bm).c (l.getD k9 bm).d (l2.getD i bm).e (l2.getD i bm).A (l2.getD i bm).B (l2.getD i bm).c (l2.getD i bm).d (by have := hbk.la; omega) (by have := hbk.lp; omega)) (fun w hw => (az (cJ (bo 1 rfl hw) (bM (aZ hk9) _ (hU _))) (az (cJ (bo 1 rfl hw) (bM (aZ hk9) _ (im _))) (az (cJ (bo 3 rfl hw) (bM (aZ hi) _ (hU _))) (az (cJ (bo 3 rfl hw) (bM (aZ hi) _ (im _))) aY))))) ?_
 refine aa ?_
 refine aT aG ?_
 refine wu_splitb (t := 52) rfl (fun h8_13 => ?_) (fun h8_13 => ?_)
 refine aI (i := 14) rfl (aL rfl rfl) (bS rfl) aG aG rfl (ah (ao (ah (av (ao (ah aw)))))) (by kernel_rfl) rfl ?_
 refine aI (i := 15) rfl ak (aF rfl rfl) aG aG rfl (ah (ao (ah (av (ao (ah aw)))))) (by kernel_rfl) rfl ?_
 refine cw (by kernel_rfl) ?_
 refine aj ?_
 refine aD rfl ?_
 refine aQ ?_
 refine bj ?_
 refine aj ?_
 refine ae ?_
 refine aq (am rfl) rfl rfl ?_
 refine aq (br rfl rfl (by omega) (by omega)) rfl rfl ?_
 refine aq (ai rfl) rfl rfl ?_
 refine aa ?_
 refine bv ((i + 1, pu, Ax, cx)) ?_ ?_ ⟨rfl, trivial⟩ (by repeat (first | exact trivial | refine ⟨rfl, ?_⟩)) (fun w h => (h.weak (.cons_cons _ (.cons_cons _ (.cons_cons _ (.cons_cons _ (.cons_cons _ .slnil))))) (fun s hs => hs)))
 exact ⟨by show i + 1 ≤ _; omega, by show _ = dx l (l2.take (i + 1)); rw [dp_snoc hi, ← hI.2, if_neg (fun q => q (by rw [f3, of_decide_eq_true h8_13]))]; exact (List.append_nil _).symm⟩
 show l2.length - (i + 1) < l2.length - i
 omega
 have hne9 : b8 (l.map (·.e)) (a7 (l2.getD i bm).e.host) ≠ some (l2.getD i bm).e := by rw [f3]; exact fun q => of_decide_eq_false h8_13 (Option.some.inj q)
 refine aI (i := 14) rfl (aL rfl rfl) (bS rfl) aG aG rfl (ah (ao (ah (av (ao (ah aw)))))) (by kernel_rfl) rfl ?_
 refine aI (i := 15) rfl ak (aF rfl rfl) aG aG rfl (ah (ao (ah (av (ao (ah aw)))))) (by kernel_rfl) rfl ?_
 refine cw (by kernel_rfl) ?_
 refine aj ?_
 refine aA rfl ?_
 refine w_drawUC 10 (.cons _ (.cons_cons _ (.cons_cons _ (.cons_cons _ (.cons_cons _ .slnil))))) rfl mixed ?_
 refine aI (i := 0) rfl ak (aB cE rfl) (fun w h => h.weak (.cons _ (.cons_cons _ (.cons_cons _ (.cons_cons _ (.cons_cons _ .slnil))))) (fun s hs => hs)) aG rfl (ao (ah (av (ao (ah aw))))) (by kernel_rfl) rfl ?_
 refine aI (i := 1) rfl ak (aC 0 bz rfl rfl rfl) (fun w h => h.weak (.cons _ (.cons_cons _ (.cons_cons _ (.cons_cons _ (.cons_cons _ .slnil))))) (fun s hs => hs)) aG rfl (ao (ah (av (ao (ah aw))))) (by kernel_rfl) rfl ?_
 refine aI (i := 2) rfl ak (aB bX rfl) (fun w h => h.weak (.cons _ (.cons_cons _ (.cons_cons _ (.cons_cons _ (.cons_cons _ .slnil))))) (fun s hs => hs)) aG rfl (ao (ah (av (ao (ah aw))))) (by kernel_rfl) rfl ?_
 refine aI (i := 3) rfl ak (aC 2 bz rfl rfl rfl) (fun w h => h.weak (.cons _ (.cons_cons _ (.cons_cons _ (.cons_cons _ (.cons_cons _ .slnil))))) (fun s hs => hs)) aG rfl (ao (ah (av (ao (ah aw))))) (by kernel_rfl) rfl ?_
 refine aI (i := 4) rfl ak (am rfl) (fun w h => h.weak (.cons _ (.cons_cons _ (.cons_cons _ (.cons_cons _ (.cons_cons _ .slnil))))) (fun s hs => hs)) aG rfl (ao (ah (av (ao (ah aw))))) (by kernel_rfl) rfl ?_
 refine aI (i := 5) rfl ak (bB  Tryz.underlying22 aU rfl rfl (bF 2 rfl) rfl (by omega)) (fun w h => h.weak (.cons _ (.cons_cons _ (.cons_cons _ (.cons_cons _ (.cons_cons _ .slnil))))) (fun s hs => hs)) aG rfl (ao (ah (av (ao (ah aw))))) (by kernel_rfl) rfl ?_
 refine aI (i := 6) rfl ak (b6 bp bm aU rfl (bF 2 rfl) (by omega) rfl rfl rfl) (fun w h => h.weak (.cons _ (.cons_cons _ (.cons_cons _ (.cons_cons _ (.cons_cons _ .slnil))))) (fun s hs => hs)) aG rfl (ao (ah (av (ao (ah aw))))) (by kernel_rfl) rfl ?_
 refine bl (i := 7) rfl rfl rfl (fun _ _ _ => aM (by kernel_rfl)) (by kernel_rfl) rfl ?_
 refine bY (vs := [_]) ([l2.getD i bm] : List (Le)) bp Tryz.underlying22 aU rfl rfl rfl rfl rfl rfl (fun As8 => ?_)
 refine aa ?_
 refine aT (fun w h => h.weak (.cons _ (.cons _ (.cons_cons _ (.cons_cons _ (.cons_cons _ (.cons_cons _ .slnil)))))) (fun s hs => hs)) ?_
 refine bl (i := 8) rfl rfl rfl (fun _ _ _ => aM (by kernel_rfl)) (by kernel_rfl) rfl ?_
 refine cv (enc := dF) (sz := 7) [l2.getD i bm] Tryz.underlying22 aU rfl rfl rfl (fun A c => (.s (.z))) (d5 0 Tryz.underlying22 rfl) (by simp only [List.length_cons, List.length_nil]; omega) (by simp only [List.length_cons, List.length_nil]; omega) rfl (fun A8 c8 => ?_)
 refine aa ?_
 refine aT (fun w h => h.weak (.cons _ (.cons _ (.cons_cons _ (.cons_cons _ (.cons_cons _ (.cons_cons _ .slnil)))))) (fun s hs => hs)) ?_
 refine aI (i := 9) rfl ak (aB cE rfl) (fun w h => h.weak (.cons _ (.cons _ (.cons_cons _ (.cons_cons _ (.cons_cons _ (.cons_cons _ .slnil)))))) (fun s hs => hs)) aG rfl (ao (ah (av (ao (ah aw))))) (by kernel_rfl) rfl ?_
 refine bl (i := 10) rfl rfl rfl (fun _ _ _ => aM (by kernel_rfl)) (by kernel_rfl) rfl ?_
 refine aW bz rfl rfl rfl (.s (.s (.z))) rfl rfl rfl rfl ?_
 refine aa ?_
 refine cW rfl ?_
 refine cw (by kernel_rfl) ?_
 refine bj ?_
 refine aj ?_
 refine ae ?_
 refine aq (am rfl) rfl rfl ?_
 refine aq (br rfl rfl (by omega) (by omega)) rfl rfl ?_
 refine aq (ai rfl) rfl rfl ?_
 refine aa ?_
 refine bv ((i + 1, pu ++ [l2.getD i bm], A8, c8)) ?_ ?_ ⟨rfl, trivial⟩ (by repeat (first | exact trivial | refine ⟨rfl, ?_⟩)) (fun w h => (h.weak (.cons _ (.cons_cons _ (.cons_cons _ (.cons_cons _ (.cons_cons _ (.cons_cons _ .slnil)))))) (fun s hs => hs)))
 exact ⟨by show i + 1 ≤ _; omega, by show _ = dx l (l2.take (i + 1)); rw [dp_snoc hi, ← hI.2, if_pos (by first | exact hne9 | (rw [hno9]; exact fun q => nomatch q))]⟩
 show l2.length - (i + 1) < l2.length - i
 omega
 refine aa ?_
 refine aj ?_
 refine aD rfl ?_
 refine bJ ?_
 refine aV ?_
 refine aX ?_
 refine a8 ?_
 refine aj ?_
 refine ap ?_
 refine ap ?_
 have hP : pu = dx l (l2.take i) := hI.2
 obtain rfl : i = l2.length := by omega
 refine ae ?_
 refine aq (ai rfl) rfl rfl ?_
 refine aa ?_
 refine aj ?_
 refine aS ?_
 refine cz (fun w h => h.nilsl 26 1) ?_
 refine cz (fun w h => (h.weak (.cons_cons _ (.cons_cons _ (.cons_cons _ (.cons_cons _ (.cons_cons _ (.cons_cons _ .slnil)))))) (fun s hs => hs)).f1.f2.f2) ?_
 refine w_loop2 (σ := Nat × List a6 × Option Addr × Nat) [8, 65, 66, 67, 68, 69, 70, 71, 72, 73, 74, 75, 76, 77, 78, 79, 80, 81, 82, 83, 84, 85, 86, 87, 88, 89, 90, 91, 92] (fun z => z.1 ≤ l.length ∧ z.2.1 = dd (l.take z.1) l2) (fun z => l.length - z.1) (fun z => [(8, .int .i64 z.1)]) (fun z => Ch.ls z.2.2.1 z.2.2.2 26 1 dD z.2.1) (fun z => Ch.row b4 (er false v v2 Ax pu.length cx z.2.2.1 z.2.1.length z.2.2.2) 103) ((0, [], none, 0)) ?_ ⟨rfl, trivial⟩ rfl rfl (fun z hI => ?_)
 exact ⟨Nat.zero_le _, rfl⟩
 obtain ⟨i, da, Ay, cy⟩ := z
 dsimp only at hI ⊢
 refine ap ?_
 refine ap ?_
 refine ae ?_
 refine aq (am rfl) rfl rfl ?_
 refine aq (aB bX rfl) rfl rfl ?_
 refine aq (aC 5 bz rfl rfl rfl) rfl rfl ?_
 refine aq (bg Tryz.underlying22 rfl) rfl rfl ?_
 refine aq (bW rfl rfl) rfl rfl ?_
 refine ay (t := 69) rfl (fun h11_4 => ?_) (fun h11_4 => ?_)
 have hi : i < l.length := by omega
 have hb1 := hok.mem17 (aZ (d := bm) hi)
 have hck1 : bd (l.getD i bm).e.host = 0 := hte1.ck _ (List.mem_map.2 ⟨_, aZ hi, rfl⟩)
 have hdl : da.length ≤ i := by rw [hI.2]; exact Nat.le_trans (jC _ _) (by rw [List.length_take]; omega)
 refine aa ?_
 refine aj ?_
 refine aA rfl ?_
 refine aQ ?_
 refine aj ?_
 refine ap ?_
 refine aS ?_
 refine ap ?_
 refine e7 10 rfl mixed ?_
 refine aI (i := 0) rfl ak (aB bX rfl) aG aG rfl (ah (ao (ah (av (ao (ah aw)))))) (by kernel_rfl) rfl ?_
 refine aI (i := 1) rfl ak (aC 4 bz rfl rfl rfl) aG aG rfl (ah (ao (ah (av (ao (ah aw)))))) (by kernel_rfl) rfl ?_
 refine aI (i := 2) rfl ak (aB bX rfl) aG aG rfl (ah (ao (ah (av (ao (ah aw)))))) (by kernel_rfl) rfl ?_
 refine aI (i := 3) rfl ak (aC 5 bz rfl rfl rfl) aG aG rfl (ah (ao (ah (av (ao (ah aw)))))) (by kernel_rfl) rfl ?_
 refine aI (i := 4) rfl ak (am rfl) aG aG rfl (ah (ao (ah (av (ao (ah aw)))))) (by kernel_rfl) rfl ?_
 refine aI (i := 5) rfl ak (bB  Tryz.underlying22 aU rfl rfl (bF 0 rfl) rfl (by omega)) aG aG rfl (ah (ao (ah (av (ao (ah aw)))))) (by kernel_rfl) rfl ?_
 refine aI (i := 6) rfl ak (aB cM rfl) aG aG rfl (ah (ao (ah (av (ao (ah aw)))))) (by kernel_rfl) rfl ?_
 refine aI (i := 7) rfl ak (bZ bp bm bE rfl (bF 0 rfl) (by omega) rfl rfl) aG aG rfl (ah (ao (ah (av (ao (ah aw)))))) (by kernel_rfl) rfl ?_
 refine bl (i := 8) rfl rfl rfl (bf rfl g8) (by kernel_rfl) rfl ?_
 refine eT rfl g8 rfl (gW l2 A2 c2 (l.getD i bm).e.host hok2 (by omega) (by have := hb1.h; omega)) (fun w hw => (az (bo 2 rfl hw) aY)) (fun ⟨i9, hfi⟩ => ?_)
 refine aa ?_
 refine aT aG ?_
 refine dT (t := 80) (.int .i64 i9) rfl rfl ?_
 refine aI (i := 9) rfl ak (bW rfl rfl) aG aG rfl (ah (ao (ah (av (ao (ah aw)))))) (by kernel_rfl) rfl ?_
 refine wu_splitp (t := 81) rfl (fun h13_9 => ?_) (fun h13_9 => ?_)
 obtain ⟨rfl, hno⟩ := hfi.resolve_right (fun ⟨k, h, _⟩ => by omega)
 have hno9 := fp_no hte2 hck1 hno
 refine cw (by kernel_rfl) ?_
 refine aj ?_
 refine aA rfl ?_
 refine w_drawUC 11 (.cons _ (.cons_cons _ (.cons_cons _ (.cons_cons _ (.cons_cons _ (.cons_cons _ .slnil)))))) rfl mixed ?_
 refine aI (i := 0) rfl ak (aB cP rfl) (fun w h => h.weak (.cons _ (.cons_cons _ (.cons_cons _ (.cons_cons _ (.cons_cons _ (.cons_cons _ .slnil)))))) (fun s hs => hs)) aG rfl (ao (ah (av (ao (ah aw))))) (by kernel_rfl) rfl ?_
 refine aI (i := 1) rfl ak (aC 0 ew rfl rfl rfl) (fun w h => h.weak (.cons _ (.cons_cons _ (.cons_cons _ (.cons_cons _ (.cons_cons _ (.cons_cons _ .slnil)))))) (fun s hs => hs)) aG rfl (ao (ah (av (ao (ah aw))))) (by kernel_rfl) rfl ?_
 refine aI (i := 2) rfl ak (aB bX rfl) (fun w h => h.weak (.cons _ (.cons_cons _ (.cons_cons _ (.cons_cons _ (.cons_cons _ (.cons_cons _ .slnil)))))) (fun s hs => hs)) aG rfl (ao (ah (av (ao (ah aw))))) (by kernel_rfl) rfl ?_
 refine aI (i := 3) rfl ak (aC 4 bz rfl rfl rfl) (fun w h => h.weak (.cons _ (.cons_cons _ (.cons_cons _ (.cons_cons _ (.cons_cons _ (.cons_cons _ .slnil)))))) (fun s hs => hs)) aG rfl (ao (ah (av (ao (ah aw))))) (by kernel_rfl) rfl ?_
 refine aI (i := 4) rfl ak (am rfl) (fun w h => h.weak (.cons _ (.cons_cons _ (.cons_cons _ (.cons_cons _ (.cons_cons _ (.cons_cons _ .slnil)))))) (fun s hs => hs)) aG rfl (ao (ah (av (ao (ah aw))))) (by kernel_rfl) rfl ?_
 refine aI (i := 5) rfl ak (bB  Tryz.underlying22 aU rfl rfl (bF 0 rfl) rfl (by omega)) (fun w h => h.weak (.cons _ (.cons_cons _ (.cons_cons _ (.cons_cons _ (.cons_cons _ (.cons_cons _ .slnil)))))) (fun s hs => hs)) aG rfl (ao (ah (av (ao (ah aw))))) (by kernel_rfl) rfl ?_
 refine aI (i := 6) rfl ak (aB cM rfl) (fun w h => h.weak (.cons _ (.cons_cons _ (.cons_cons _ (.cons_cons _ (.cons_cons _ (.cons_cons _ .slnil)))))) (fun s hs => hs)) aG rfl (ao (ah (av (ao (ah aw))))) (by kernel_rfl) rfl ?_
 refine aI (i := 7) rfl ak (bZ bp bm bE rfl (bF 0 rfl) (by omega) rfl rfl) (fun w h => h.weak (.cons _ (.cons_cons _ (.cons_cons _ (.cons_cons _ (.cons_cons _ (.cons_cons _ .slnil)))))) (fun s hs => hs)) aG rfl (ao (ah (av (ao (ah aw))))) (by kernel_rfl) rfl ?_
 refine bl (i := 8) rfl rfl rfl (fun _ _ _ => aM (by kernel_rfl)) (by kernel_rfl) rfl ?_
 refine bY (vs := [_]) ([(l.getD i bm).e.host] : List (a6)) bV Tryz.underlying59 bE rfl rfl rfl rfl rfl rfl (fun As11 => ?_)
 refine aa ?_
 refine aT (fun w h => h.weak (.cons _ (.cons _ (.cons_cons _ (.cons_cons _ (.cons_cons _ (.cons_cons _ (.cons_cons _ .slnil))))))) (fun s hs => hs)) ?_
 refine bl (i := 9) rfl rfl rfl (fun _ _ _ => aM (by kernel_rfl)) (by kernel_rfl) rfl ?_
 refine cv (enc := dD) (sz := 1) [(l.getD i bm).e.host] Tryz.underlying59 bE rfl rfl rfl (fun A c => (.s (.z))) (d5 0 Tryz.underlying59 rfl) (by simp only [List.length_cons, List.length_nil]; omega) (by simp only [List.length_cons, List.length_nil]; omega) rfl (fun A11 c11 => ?_)
 refine aa ?_
 refine aT (fun w h => h.weak (.cons _ (.cons _ (.cons_cons _ (.cons_cons _ (.cons_cons _ (.cons_cons _ (.cons_cons _ .slnil))))))) (fun s hs => hs)) ?_
 refine aI (i := 10) rfl ak (aB cP rfl) (fun w h => h.weak (.cons _ (.cons _ (.cons_cons _ (.cons_cons _ (.cons_cons _ (.cons_cons _ (.cons_cons _ .slnil))))))) (fun s hs => hs)) aG rfl (ao (ah (av (ao (ah aw))))) (by kernel_rfl) rfl ?_
 refine bl (i := 11) rfl rfl rfl (fun _ _ _ => aM (by kernel_rfl)) (by kernel_rfl) rfl ?_
 refine aW ew rfl rfl rfl (.s (.s (.z))) rfl rfl rfl rfl ?_
 refine aa ?_
 refine cW rfl ?_
 refine cw (by kernel_rfl) ?_
 refine bj ?_
 refine aj ?_
 refine ae ?_
 refine aq (am rfl) rfl rfl ?_
 refine aq (br rfl rfl (by omega) (by omega)) rfl rfl ?_
 refine aq (ai rfl) rfl rfl ?_
 refine aa ?_
 refine bv ((i + 1, da ++ [(l.getD i bm).e.host], A11, c11)) ?_ ?_ ⟨rfl, trivial⟩ (by repeat (first | exact trivial | refine ⟨rfl, ?_⟩)) (fun w h => (h.weak (.cons _ (.cons_cons _ (.cons_cons _ (.cons_cons _ (.cons_cons _ (.cons_cons _ (.cons_cons _ .slnil))))))) (fun s hs => hs)))
 exact ⟨by show i + 1 ≤ _; omega, by show _ = dd (l.take (i + 1)) l2; rw [dd_snoc hi, ← hI.2, if_pos hno9]⟩
 show l.length - (i + 1) < l.length - i
 omega
 obtain ⟨k9, rfl, hk9, hs9⟩ := hfi.resolve_left (fun h => by omega)
 obtain ⟨f1, f2, f3⟩ := fp_yes hte2 hk9 hs9
 refine cw (by kernel_rfl) ?_
 refine aj ?_
 refine aD rfl ?_
 refine aQ ?_
 refine bj ?_
 refine aj ?_
 refine ae ?_
 refine aq (am rfl) rfl rfl ?_
 refine aq (br rfl rfl (by omega) (by omega)) rfl rfl ?_
 refine aq (ai rfl) rfl rfl ?_
 refine aa ?_
 refine bv ((i + 1, da, Ay, cy)) ?_ ?_ ⟨rfl, trivial⟩ (by repeat (first | exact trivial | refine ⟨rfl, ?_⟩)) (fun w h => (h.weak (.cons_cons _ (.cons_cons _ (.cons_cons _ (.cons_cons _ (.cons_cons _ (.cons_cons _ .slnil)))))) (fun s hs => hs)))
 exact ⟨by show i + 1 ≤ _; omega, by show _ = dd (l.take (i + 1)) l2; rw [dd_snoc hi, ← hI.2, if_neg (fun q => by rw [f3] at q; cases q)]; exact (List.append_nil _).symm⟩
 show l.length - (i + 1) < l.length - i
 omega
 refine aa ?_
 refine aj ?_
 refine aD rfl ?_
 refine bJ ?_
 refine aV ?_
 refine aX ?_
 refine a8 ?_
 refine aj ?_
 refine ap ?_
 refine ae ?_
 refine aq (bu 1 bL rfl rfl rfl rfl) rfl rfl ?_
 refine aW bL rfl rfl rfl (.s (.s (.s (.z)))) rfl rfl rfl rfl ?_
 refine aa ?_
 refine aj ?_
 refine aN ?_
 refine dP (rs := [.cell 4 103]) rfl (bQ 3 bL rfl rfl rfl rfl cG) rfl (fun w hw => ?_)
 obtain ⟨e1, e2, e3⟩ := df_eq9 hT1 hT2
 have d1 : dfP v l v2 l2 = pu := by rw [e1, hP, List.take_of_length_le (by omega)]
 have d2 : dfD v l v2 l2 = da := by rw [e2, hI.2, List.take_of_length_le (by omega)]
 rw [d1, d2, e3, e3]
 exact ⟨((Ax, cx), Ay, cy), rfl, hw.base, ((hw.weak (.cons_cons _ (.cons _ (.cons_cons _ (.cons _ (.cons _ (.cons _ .slnil)))))) (fun s hs => hs))).toNews⟩
end Go.Proofs.YtnpdgmoeoidppaaGreat
