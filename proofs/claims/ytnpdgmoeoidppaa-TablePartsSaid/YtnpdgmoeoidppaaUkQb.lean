import Derived.Test.YtnpdgmoeoidppaaUgQb
import Derived.Test.YtnpdgmoeoidppaaLsQb
/- law 17: what a push makes -/
namespace Go.Proofs.Ytnpdgmoeoidppaa
open Go.RowKit Go.Shelf
set_option linter.unusedVariables false
set_option linter.unusedSimpArgs false

theorem ent_10 : Enters Try.prog 10 := enters_of Try.func10 (by kernel_rfl) rfl
theorem ent_11 : Enters Try.prog 11 := enters_of Try.func11 (by kernel_rfl) rfl
theorem ir : Enters Try.prog 14 := enters_of Try.func14 (by kernel_rfl) rfl
theorem ent_15 : Enters Try.prog 15 := enters_of Try.func15 (by kernel_rfl) rfl
theorem ent_16 : Enters Try.prog 16 := enters_of Try.func16 (by kernel_rfl) rfl
theorem ent_18 : Enters Try.prog 18 := enters_of Try.func18 (by kernel_rfl) rfl
theorem ent_19 : Enters Try.prog 19 := enters_of Try.func19 (by kernel_rfl) rfl
theorem ent_9 : Enters Try.prog 9 := enters_of Try.func9 (by kernel_rfl) rfl

theorem rd_none1 {w : World} {sz : Nat} {α : Type} {enc : α → List Value} : (Ch.rd none sz enc ([] : List α)).P w ∧ ∀ b, (Ch.rd none sz enc ([] : List α)).ok b → b < w.heap.size := ⟨⟨by simp [fl], (by simp [fl]), .inl rfl⟩, fun b hb => absurd hb.1 (by simp)⟩
theorem rd_fe {w : World} {l : List Le} {y : Le} (h : (Ch.rall (l.flatMap ff)).P w ∧ ∀ b, (Ch.rall (l.flatMap ff)).ok b → b < w.heap.size) (hm : y ∈ bO :: l) : ((Ch.rd y.A 3 fY y.e.addrs).P w ∧ ∀ b, (Ch.rd y.A 3 fY y.e.addrs).ok b → b < w.heap.size) ∧ ((Ch.rd y.B 1 eN y.e.ports).P w ∧ ∀ b, (Ch.rd y.B 1 eN y.e.ports).ok b → b < w.heap.size) := by
  rcases List.mem_cons.1 hm with rfl | hm
  · exact ⟨rd_none1, rd_none1⟩
  · exact ⟨c9 h (cg hm _ (il _)), c9 h (cg hm _ (iv _))⟩

theorem iG {α β : Type} {p : α × β} {a : α} (h : p.1 = a) : p = (a, p.2) := by rw [← h]
theorem apply_bad {v : Int} {l : List Le} {full : Bool} {bs ver : Int} {put : List Le} {drop : List bg} (h : (bM v l full bs ver put drop).1 ≠ 0) : (bM v l full bs ver put drop).2 = [] := by
  revert h
  unfold bM
  split
  · exact fun _ => rfl
  · split
    · exact fun _ => rfl
    · split
      · exact fun _ => rfl
      · split
        · exact fun _ => rfl
        · split
          · exact fun _ => rfl
          · exact fun h => absurd rfl h
theorem same_ck {a b : bg} (h : e6 a b = true) : bj a = 0 ∧ bj b = 0 ∧ bh a = bh b := by
  simp only [e6, Bool.and_eq_true, decide_eq_true_eq] at h
  have h9 : e6 a b = true := by simp only [e6, Bool.and_eq_true, decide_eq_true_eq]; exact h
  exact ⟨h.1.1, h.1.2, (same2_iff h.1.1 h.1.2).1 h9⟩
section
variable {v : Int} {l : List Le} {full : Bool} {bs ver : Int} {put : List Le} {drop : List bg} {r : List Le} (hA : ApplyOk v l full bs ver put drop r) {n : bg}
include hA
theorem push_in {ta : List Le} {x : Option Le} {v' : Int} (ht : ta.map (·.e) = r.map (·.e)) (h0 : bX v' ta = 0) (hx : x.map (·.e) = lookT v' ta n) : x.map (·.e) = if bj n ≠ 0 then none else (bQ (put.map (·.e)) (bh n)).or (if full = true then none else if bh n ∈ drop.map bh then none else bQ (l.map (·.e)) (bh n)) := by
  rw [hx, lookT]
  by_cases hn : bj n ≠ 0
  · rw [if_pos (.inr hn), if_pos hn]
  · rw [if_neg (fun q => q.elim (fun q => q h0) hn), if_neg hn, ht, hA.look]
theorem put_hosts : HostsOk (put.map (·.e)) := ⟨fun e he => by
  obtain ⟨x, hx, rfl⟩ := List.mem_map.1 he
  exact hA.hck x hx, fun e he f hf q => by
  obtain ⟨x, hx, rfl⟩ := List.mem_map.1 he
  obtain ⟨y, hy, rfl⟩ := List.mem_map.1 hf
  obtain ⟨i, hi, rfl⟩ := List.mem_iff_getElem.1 hx
  obtain ⟨j, hj, rfl⟩ := List.mem_iff_getElem.1 hy
  have hp := List.pairwise_iff_getElem.1 hA.pnd
  rcases Nat.lt_trichotomy i j with c | c | c
  · exact absurd (by rw [List.getElem_map, List.getElem_map]; exact q) (hp i j (by simpa using hi) (by simpa using hj) c)
  · subst c; rfl
  · exact absurd (by rw [List.getElem_map, List.getElem_map]; exact q.symm) (hp j i (by simpa using hj) (by simpa using hi) c)⟩
theorem push_put {o : Option En} (hx : o = if bj n ≠ 0 then none else (bQ (put.map (·.e)) (bh n)).or (if full = true then none else if bh n ∈ drop.map bh then none else bQ (l.map (·.e)) (bh n))) {k : Nat} (hk : k < put.length) (hs : e6 (put.getD k bO).e.host n = true) : o = some (put.getD k bO).e := by
  obtain ⟨h1, h2, h3⟩ := same_ck hs
  rw [hx, if_neg (fun q => q h2), ← h3, eW (put_hosts hA) (List.mem_map.2 ⟨_, bE hk, rfl⟩)]; rfl
theorem push_drop {o : Option En} (hx : o = if bj n ≠ 0 then none else (bQ (put.map (·.e)) (bh n)).or (if full = true then none else if bh n ∈ drop.map bh then none else bQ (l.map (·.e)) (bh n))) {k : Nat} (hk : k < drop.length) (hs : e6 (drop.getD k []) n = true) : o = none := by
  obtain ⟨h1, h2, h3⟩ := same_ck hs
  have hm : bh n ∈ drop.map bh := List.mem_map.2 ⟨_, bE hk, h3⟩
  have hno : bQ (put.map (·.e)) (bh n) = none := look_none.2 fun e he q => by
    obtain ⟨y, hy, rfl⟩ := List.mem_map.1 he
    exact (List.nodup_append.1 hA.dis).2.2 _ (List.mem_map.2 ⟨y, hy, rfl⟩) _ hm q
  rw [hx, if_neg (fun q => q h2), hno, if_pos hm]
  cases full <;> rfl
theorem push_else {o : Option En} (hx : o = if bj n ≠ 0 then none else (bQ (put.map (·.e)) (bh n)).or (if full = true then none else if bh n ∈ drop.map bh then none else bQ (l.map (·.e)) (bh n))) (hp : ∀ q, q < put.length → e6 (put.getD q bO).e.host n = false) (hd : ∀ q, q < drop.length → e6 (drop.getD q []) n = false) : o = if full = true then none else lookT v l n := by
  rw [hx, lookT]
  by_cases hn : bj n ≠ 0
  · rw [if_pos hn, if_pos (show bX v l ≠ 0 ∨ bj n ≠ 0 from .inr hn)]; cases full <;> rfl
  · have hn0 : bj n = 0 := Decidable.not_not.1 hn
    have hno : bQ (put.map (·.e)) (bh n) = none := look_none.2 fun e he q => by
      obtain ⟨y, hy, rfl⟩ := List.mem_map.1 he
      obtain ⟨k, hk, rfl⟩ := List.mem_iff_getElem.1 hy
      have h1 := hp k hk
      rw [List.getD_eq_getElem?_getD, List.getElem?_eq_getElem hk, Option.getD_some] at h1
      rw [(same2_iff (hA.hck _ hy) hn0).2 q] at h1; cases h1
    have hnd : ¬ bh n ∈ drop.map bh := fun q => by
      obtain ⟨y, hy, q⟩ := List.mem_map.1 q
      obtain ⟨k, hk, rfl⟩ := List.mem_iff_getElem.1 hy
      have h1 := hd k hk
      rw [List.getD_eq_getElem?_getD, List.getElem?_eq_getElem hk, Option.getD_some] at h1
      rw [(same2_iff (hA.names _ hy) hn0).2 q] at h1; cases h1
    rw [if_neg hn, hno, if_neg hnd, Option.none_or, if_neg (show ¬ (bX v l ≠ 0 ∨ bj n ≠ 0) from fun q => q.elim (fun q => q hA.tab) hn)]
end
theorem opt_e17 {o p : Option Le} (h : o.map (·.e) = p.map (·.e)) : o.isSome = p.isSome ∧ (o.getD bO).e = (p.getD bO).e := by
  cases o <;> cases p <;> first | exact ⟨rfl, rfl⟩ | (cases h; done) | exact ⟨rfl, Option.some.inj h⟩
theorem opt_some17 {o : Option Le} {e : En} (h : o.map (·.e) = some e) : o.isSome = true ∧ (o.getD bO).e = e := by
  cases o with
  | none => cases h
  | some y => exact ⟨rfl, Option.some.inj h⟩
theorem opt_none17 {o : Option Le} (h : o.map (·.e) = none) : o.isSome = false := by
  cases o with
  | none => rfl
  | some y => cases h
theorem ap_tb {v : Int} {l : List Le} {full : Bool} {bs ver : Int} {put : List Le} {drop : List bg} (hok : TbOk l) (hpok : TbOk put) {ta : List Le} (ht : ta.map (·.e) = (bM v l full bs ver put drop).2.map (·.e)) : TbOk ta := by
  by_cases h : (bM v l full bs ver put drop).1 = 0
  · have hA := apply_ok.1 (iG h)
    exact TbOk.eqs (l := (bM v l full bs ver put drop).2) (fun x hx => (hA.mem hx).elim (hok x) (hpok x)) ht
  · rw [apply_bad h] at ht
    cases ta with
    | nil => exact nofun
    | cons a r => cases ht
theorem fW {v : Int} {l : List Le} {full : Bool} {bs ver : Int} {put : List Le} {drop : List bg} {ta : List Le} (ht : ta.map (·.e) = (bM v l full bs ver put drop).2.map (·.e)) : ta.length ≤ 256 := by
  by_cases h : (bM v l full bs ver put drop).1 = 0
  · rw [d7 ht]; exact (apply_ok.1 (iG h)).len
  · rw [d7 ht, apply_bad h]; exact Nat.zero_le _

theorem fe_bnd17 {l : List Le} (hok : TbOk l) {y : Le} (hm : y ∈ bO :: l) : EnB y.e := by
  have h1 : TbOk (bO :: l) := fun x hx => by
    rcases List.mem_cons.1 hx with rfl | hx
    · exact smE_ok (by decide)
    · exact hok x hx
  exact h1.mem17 hm

set_option maxRecDepth 100000 in
set_option maxHeartbeats 4000000 in
theorem c_TablePushes (v : Int) (l : List Le) (A : Option Addr) (c : Nat) (full : Bool) (bs ver : Int) (put : List Le) (P : Option Addr) (pc : Nat) (drop : List bg) (D : Option Addr) (dc : Nat) (n : bg) (hnl : n.length ≤ 9223372036854775807) (hen : ∀ x ∈ l, EnOk x.e) (hll : l.length ≤ 9223372036854775807) (hpen : ∀ x ∈ put, EnOk x.e) (hpll : put.length ≤ 9223372036854775807) (hdll : drop.length ≤ 9223372036854775807) : RC Try.prog 4 #[.agg (cU v A l.length c).toArray, .agg (eJ full bs ver P put.length pc D drop.length dc).toArray, .string (ba n)] [Ch.rd A 7 d4 l, Ch.rall (l.flatMap ff), Ch.rd P 7 d4 put, Ch.rall (put.flatMap ff), Ch.rd D 1 ed drop] (α := Unit) (fun _ => .bool true) (fun _ => []) := by
 refine bZ (args := [.agg (cU v A l.length c).toArray, .agg (eJ full bs ver P put.length pc D drop.length dc).toArray, .string (ba n)]) 123 Try.func4 rfl rfl rfl (fun w0 => ?_)
 refine ar ?_
 refine ah ?_
 refine cT rfl rfl rfl (fun b1 => ?_)
 refine cT rfl rfl rfl (fun b2 => ?_)
 refine ap (ai rfl) rfl rfl ?_
 refine ae ?_
 refine ao ?_
 refine ar ?_
 refine ar ?_
 refine ah ?_
 refine bR rfl ent_9 c_lives17 rfl ?_
 refine dx (t := 16) (.bool true) rfl (congrArg Value.bool rfl) ?_
 refine ap (ct rfl) rfl rfl ?_
 refine ae ?_
 refine ao ?_
 refine aN rfl ?_
 refine bd ?_
 refine ao ?_
 refine ar ?_
 refine ar ?_
 refine ah ?_
 refine ap (bp 1 aZ rfl rfl rfl rfl) rfl rfl ?_
 refine bi rfl ent_10 rfl (g2 v l _ _ (by omega)) (fun w hw => (ak (bW 0 rfl hw) aO)) ?_
 refine bS (t := 19) rfl (fun h3_1 => ?_) (fun h3_1 => ?_)
 have hle9 := eX h3_1
 have hok : TbOk l := fun x hx => ⟨hen x hx, hle9.1 x hx⟩
 have hl9 := hle9.2
 refine ap (ct rfl) rfl rfl ?_
 refine ap (am rfl) rfl rfl ?_
 refine aw rfl rfl ?_
 refine ap (bp 0 er rfl rfl rfl rfl) rfl rfl ?_
 refine aw rfl rfl ?_
 refine bi rfl ent_11 rfl (c_LightPush full bs ver put P pc drop D dc 40 hpll hdll) (fun w hw => (ak (bW 2 rfl hw) (ak (bW 4 rfl hw) aO))) ?_
 refine bS (t := 23) rfl (fun h3_5 => ?_) (fun h3_5 => ?_)
 have hlp := (Bool.and_eq_true _ _).mp h3_5
 have hlp1 := eX hlp.1
 have hlp2 := lightN_le hlp.2
 have hpok : TbOk put := fun x hx => ⟨hpen x hx, hlp1.1 x hx⟩
 have hlp3 := hlp1.2
 have hlp4 := hlp2.2
 have hdb9 : ∀ n ∈ drop, n.length ≤ 1000 := fun n hn => Nat.le_trans (hlp2.1 n hn) (by decide)
 refine aw rfl rfl ?_
 refine ap (ct rfl) rfl rfl ?_
 refine ap (aQ rfl rfl) rfl rfl ?_
 refine ap (am rfl) rfl rfl ?_
 refine aw rfl rfl ?_
 refine ap (am rfl) rfl rfl ?_
 refine aw rfl rfl ?_
 refine ap (dS Try.underlying37 rfl) rfl rfl ?_
 refine aw rfl rfl ?_
 refine ap (eo rfl rfl) rfl rfl ?_
 refine aC (t := 29) rfl (fun h3_11 => ?_) (fun h3_11 => ?_)
 refine ap (aQ rfl rfl) rfl rfl ?_
 refine ae ?_
 refine ao ?_
 refine aI rfl ?_
 refine ar ?_
 refine ah ?_
 refine ap (ai rfl) rfl rfl ?_
 refine ae ?_
 refine ao ?_
 refine aV ?_
 refine aB ?_
 refine aY (ts := [6]) rfl rfl rfl (fun w hw => ?_)
 exact ⟨(), rfl, hw.base, (hw.weak (List.nil_sublist _) (fun s hs => hs)).toNews⟩
 refine ap (aQ rfl rfl) rfl rfl ?_
 refine ae ?_
 refine ao ?_
 refine aN rfl ?_
 refine bd ?_
 refine ao ?_
 refine ar ?_
 refine ah ?_
 refine ap (bp 1 aZ rfl rfl rfl rfl) rfl rfl ?_
 refine a6 rfl ent_15 rfl (c_OwnTable v l _ _ hok (by omega)) (fun w hw => (ak (bW 0 rfl hw) (ak (bW 1 rfl hw) aO))) (fun ⟨⟨lo, Ao, co⟩, hlo⟩ => ?_)
 refine bu aZ rfl rfl (fun b4 => ?_)
 refine aS aZ rfl rfl rfl .z rfl rfl rfl rfl ?_
 refine ae ?_
 refine ao ?_
 refine ar ?_
 refine ah ?_
 refine ap (bp 4 aZ rfl rfl rfl rfl) rfl rfl ?_
 refine ap (bp 3 er rfl rfl rfl rfl) rfl rfl ?_
 refine a6 rfl aU rfl (a8 v l _ _ full bs ver put _ _ drop _ _ hok hpok (by omega) (by omega) (by omega) hdb9) (fun w hw => (ak (bW 0 rfl hw) (ak (bW 1 rfl hw) (ak (bW 2 rfl hw) (ak (bW 3 rfl hw) (ak (bW 4 rfl hw) aO)))))) (fun ⟨⟨ta, Aa, ca⟩, hta⟩ => ?_)
 have htaok : TbOk ta := ap_tb hok hpok hta
 have htal : ta.length ≤ 256 := fW hta
 refine ap (am rfl) rfl rfl ?_
 refine ap (az rfl rfl) rfl rfl ?_
 refine ap (az rfl rfl) rfl rfl ?_
 refine bu aZ rfl rfl (fun b6 => ?_)
 refine aS aZ rfl rfl rfl .z rfl rfl rfl rfl ?_
 refine ap (ai rfl) rfl rfl ?_
 refine ae ?_
 refine ao ?_
 refine ar ?_
 refine ar ?_
 refine ah ?_
 refine ap (bp 7 aZ rfl rfl rfl rfl) rfl rfl ?_
 refine ap (bp 3 aZ rfl rfl rfl rfl) rfl rfl ?_
 refine bi rfl ent_16 rfl (c_ref17_Same v l _ _ v lo _ _ hok (by omega) (by rw [d7 hlo]; omega)) (fun w hw => (ak (bW 0 rfl hw) (ak (bW 1 rfl hw) (ak (aK 5 rfl hw) (ak (ci 4 rfl hw) aO))))) ?_
 refine dx (t := 41) (.bool true) rfl (congrArg Value.bool (decide_eq_true ⟨rfl, hlo.symm⟩)) ?_
 refine ap (ct rfl) rfl rfl ?_
 refine ae ?_
 refine ao ?_
 refine aN rfl ?_
 refine bd ?_
 refine ao ?_
 refine ar ?_
 refine ar ?_
 refine ah ?_
 refine ap (am rfl) rfl rfl ?_
 refine ap (db rfl rfl) rfl rfl ?_
 refine aC (t := 44) rfl (fun h9_1 => ?_) (fun h9_1 => ?_)
 refine ae ?_
 refine ao ?_
 refine aI rfl ?_
 refine ar ?_
 refine ah ?_
 refine ap (bp 0 aZ rfl rfl rfl rfl) rfl rfl ?_
 refine ap (bm rfl (bu_24)) rfl rfl ?_
 refine bi rfl ir rfl (gr (apV (bM v l full bs ver put drop).1 ver) ta _ _ 0 [] none 0 htaok (by omega) (by decide)) (fun w hw => (ak (aK 2 rfl hw) (ak (ci 1 rfl hw) (ak (eZ) (ak (bo nofun) aO))))) ?_
 refine dx (t := 47) (.bool true) rfl (congrArg Value.bool (decide_eq_true ⟨apV_ne h9_1 ver, by rw [hta, apply_bad h9_1]⟩)) ?_
 refine ap (ai rfl) rfl rfl ?_
 refine ae ?_
 refine ao ?_
 refine aV ?_
 refine aB ?_
 refine aY (ts := [6]) rfl rfl rfl (fun w hw => ?_)
 exact ⟨(), rfl, hw.base, (hw.weak (List.nil_sublist _) (fun s hs => hs)).toNews⟩
 have hz : (bM v l full bs ver put drop).1 = 0 := Decidable.not_not.1 h9_1
 have hA := apply_ok.1 (iG hz)
 have hvv : (apV (bM v l full bs ver put drop).1 ver) = ver := by rw [hz]; rfl
 have htab : bX (apV (bM v l full bs ver put drop).1 ver) ta = 0 := by rw [hvv, tab_e17 ver hta]; exact hA.tab2
 refine ae ?_
 refine ao ?_
 refine aN rfl ?_
 refine bd ?_
 refine ao ?_
 refine ar ?_
 refine ar ?_
 refine ah ?_
 refine ap (bp 0 aZ rfl rfl rfl rfl) rfl rfl ?_
 refine bi rfl iE rfl (dP (apV (bM v l full bs ver put drop).1 ver) ta _ _ htaok (by omega)) (fun w hw => (ak (aK 2 rfl hw) (ak (ci 1 rfl hw) aO))) ?_
 refine ap (db rfl rfl) rfl rfl ?_
 refine wl_af (t := 50) rfl (fun h => h htab) ?_
 refine ap (am rfl) rfl rfl ?_
 refine aw rfl rfl ?_
 refine ap (aF cX rfl) rfl rfl ?_
 refine aw rfl rfl ?_
 refine ap (aG 0 cW rfl rfl rfl) rfl rfl ?_
 refine aw rfl rfl ?_
 refine ap (aF eQ rfl) rfl rfl ?_
 refine aw rfl rfl ?_
 refine ap (aG 6 cW rfl rfl rfl) rfl rfl ?_
 refine aw rfl rfl ?_
 refine ap (db rfl rfl) rfl rfl ?_
 refine wl_af (t := 56) rfl (fun h => h hvv) ?_
 refine ap (aQ rfl rfl) rfl rfl ?_
 refine ae ?_
 refine ao ?_
 refine aN rfl ?_
 refine bd ?_
 refine ao ?_
 refine ar ?_
 refine ah ?_
 refine ap (bp 0 aZ rfl rfl rfl rfl) rfl rfl ?_
 refine ap (am rfl) rfl rfl ?_
 refine gV rfl ent_18 rfl (c_tFind (apV (bM v l full bs ver put drop).1 ver) ta _ _ n htaok (by omega) (by omega)) (fun w hw => (ak (aK 2 rfl hw) (ak (ci 1 rfl hw) aO))) (fun ⟨x9, hx9⟩ => ?_)
 have hx1 := push_in hA hta htab hx9.1
 have hxb := fe_bnd17 htaok hx9.2
 refine ap (am rfl) rfl rfl ?_
 refine ap (az rfl rfl) rfl rfl ?_
 refine ap (az rfl rfl) rfl rfl ?_
 refine bu a7 rfl rfl (fun b8 => ?_)
 refine aS a7 rfl rfl rfl .z rfl rfl rfl rfl ?_
 refine ap (ai rfl) rfl rfl ?_
 refine ae ?_
 refine ao ?_
 refine ar ?_
 refine ar ?_
 refine ah ?_
 refine ap (ai rfl) rfl rfl ?_
 refine ae ?_
 refine ao ?_
 refine bn ?_
 refine dd (σ := Nat) [6, 12, 64, 65, 66, 67, 68, 69, 70, 71, 72, 73, 74, 75, 76, 77, 78, 79, 80, 81, 82, 83, 84, 85, 86, 87, 88] (fun k => k ≤ put.length ∧ ∀ q, q < k → e6 (put.getD q bO).e.host n = false) (fun k => put.length - k) (fun k => [(12, .int .i64 k)]) (0) ?_ ⟨rfl, trivial⟩ (fun k hI => ?_)
 exact ⟨Nat.zero_le _, nofun⟩
 refine ar ?_
 refine ar ?_
 refine ah ?_
 refine ap (am rfl) rfl rfl ?_
 refine ap (aF dz rfl) rfl rfl ?_
 refine ap (aG 7 bU rfl rfl rfl) rfl rfl ?_
 refine ap (bI Try.underlying22 rfl) rfl rfl ?_
 refine ap (cV rfl rfl) rfl rfl ?_
 refine aC (t := 68) rfl (fun h15_4 => ?_) (fun h15_4 => ?_)
 have hk : k < put.length := by omega
 have hbk := (hpok.mem17 (bE (d := bO) hk)).h
 refine ae ?_
 refine ao ?_
 refine aI rfl ?_
 refine bd ?_
 refine ao ?_
 refine ar ?_
 refine bn ?_
 refine ar ?_
 refine ah ?_
 refine ap (aF dz rfl) rfl rfl ?_
 refine ap (aG 7 bU rfl rfl rfl) rfl rfl ?_
 refine ap (am rfl) rfl rfl ?_
 refine ap (cj  Try.underlying22 a7 rfl rfl (cD 2 rfl) rfl (by omega)) rfl rfl ?_
 refine ap (aF dA rfl) rfl rfl ?_
 refine ap (cR bl bO bF rfl (cD 2 rfl) (by omega) rfl rfl) rfl rfl ?_
 refine ap (am rfl) rfl rfl ?_
 refine bR rfl ent_19 (je _ _ (by omega) (by omega)) rfl ?_
 refine bS (t := 78) rfl (fun h17_7 => ?_) (fun h17_7 => ?_)
 have hf9 := opt_some17 (push_put hA hx1 hk h17_7)
 refine ae ?_
 refine ao ?_
 refine aI rfl ?_
 refine ar ?_
 refine dX 11 rfl mixed ?_
 refine aX (i := 0) rfl aa (am rfl) aD aD rfl (aj (aA (aj (aW (aA (aj av)))))) (by kernel_rfl) rfl ?_
 refine f0 (t := 79) (.bool true) rfl (congrArg Value.bool hf9.1) ?_
 refine aX (i := 1) rfl aa (am rfl) aD aD rfl (aj (aA (aj (aW (aA (aj av)))))) (by kernel_rfl) rfl ?_
 refine aX (i := 2) rfl (bG rfl rfl) (bp 0 a7 rfl rfl rfl rfl) aD aD rfl (aj (aA (aj (aW (aA (aj av)))))) (by kernel_rfl) rfl ?_
 refine aX (i := 3) rfl (bG rfl rfl) (aF dz rfl) aD aD rfl (aj (aA (aj (aW (aA (aj av)))))) (by kernel_rfl) rfl ?_
 refine aX (i := 4) rfl (bG rfl rfl) (aG 7 bU rfl rfl rfl) aD aD rfl (aj (aA (aj (aW (aA (aj av)))))) (by kernel_rfl) rfl ?_
 refine aX (i := 5) rfl (bG rfl rfl) (am rfl) aD aD rfl (aj (aA (aj (aW (aA (aj av)))))) (by kernel_rfl) rfl ?_
 refine aX (i := 6) rfl (bG rfl rfl) (cj  Try.underlying22 a7 rfl rfl (cD 2 rfl) rfl (by omega)) aD aD rfl (aj (aA (aj (aW (aA (aj av)))))) (by kernel_rfl) rfl ?_
 refine aX (i := 7) rfl (bG rfl rfl) (cS bl bO a7 rfl (cD 2 rfl) (by omega) rfl rfl rfl) aD aD rfl (aj (aA (aj (aW (aA (aj av)))))) (by kernel_rfl) rfl ?_
 refine dl (i := 8) rfl rfl rfl (aH rfl ent_20) (by kernel_rfl) rfl ?_
 refine aw rfl rfl ?_
 refine bi rfl ent_20 rfl (gA (x9.getD bO).e (x9.getD bO).A (x9.getD bO).B (x9.getD bO).c (x9.getD bO).d (put.getD k bO).e (put.getD k bO).A (put.getD k bO).B (put.getD k bO).c (put.getD k bO).d (by have := hxb.la; omega) (by have := hxb.lp; omega)) (fun w hw => (ak ((rd_fe (ci 2 rfl hw) hx9.2).1) (ak ((rd_fe (ci 2 rfl hw) hx9.2).2) (ak (c9 (bW 3 rfl hw) (cg (bE hk) _ (il _))) (ak (c9 (bW 3 rfl hw) (cg (bE hk) _ (iv _))) aO))))) ?_
 refine ae ?_
 refine d8 aD ?_
 refine f0 (t := 87) (.bool true) rfl (congrArg Value.bool (decide_eq_true hf9.2)) ?_
 refine aX (i := 9) rfl aa (aM rfl rfl) aD aD rfl (aj (aA (aj (aW (aA (aj av)))))) (by kernel_rfl) rfl ?_
 refine aX (i := 10) rfl aa (ai rfl) aD aD rfl (aj (aA (aj (aW (aA (aj av)))))) (by kernel_rfl) rfl ?_
 refine dm (by kernel_rfl) ?_
 refine ao ?_
 refine aV ?_
 refine aT ?_
 refine aB ?_
 refine bL ?_
 refine aT ?_
 refine aB ?_
 refine aY (ts := [6]) rfl rfl rfl (fun w hw => ?_)
 exact ⟨(), rfl, hw.base, (hw.weak (List.nil_sublist _) (fun s hs => hs)).toNews⟩
 refine ae ?_
 refine ao ?_
 refine aN rfl ?_
 refine bd ?_
 refine bV ?_
 refine ao ?_
 refine ah ?_
 refine ap (am rfl) rfl rfl ?_
 refine ap (bY rfl rfl (by omega) (by omega)) rfl rfl ?_
 refine ap (ai rfl) rfl rfl ?_
 refine ae ?_
 refine cr (k + 1) ?_ ?_ ⟨rfl, trivial⟩ (by repeat (first | exact trivial | refine ⟨rfl, ?_⟩)) aD
 refine ⟨by omega, fun q hq => ?_⟩
 by_cases e : q = k
 · rw [e]; exact h17_7
 · exact hI.2 q (by omega)
 omega
 refine ae ?_
 refine ao ?_
 refine aN rfl ?_
 refine cz ?_
 refine br ?_
 refine bC ?_
 refine bK ?_
 refine ao ?_
 refine ar ?_
 refine ar ?_
 have hIp : ∀ q, q < put.length → e6 (put.getD q bO).e.host n = false := fun q hq => hI.2 q (by omega)
 refine ah ?_
 refine ap (ai rfl) rfl rfl ?_
 refine ae ?_
 refine ao ?_
 refine bn ?_
 refine dd (σ := Nat) [6, 13, 89, 90, 91, 92, 93, 94, 95, 96, 97, 98, 99, 100, 101, 102, 103, 104] (fun j => j ≤ drop.length ∧ ∀ q, q < j → e6 (drop.getD q []) n = false) (fun j => drop.length - j) (fun j => [(13, .int .i64 j)]) (0) ?_ ⟨rfl, trivial⟩ (fun j hI => ?_)
 exact ⟨Nat.zero_le _, nofun⟩
 refine ar ?_
 refine ar ?_
 refine ah ?_
 refine ap (am rfl) rfl rfl ?_
 refine ap (aF ef rfl) rfl rfl ?_
 refine ap (aG 7 fO rfl rfl rfl) rfl rfl ?_
 refine ap (bI Try.underlying25 rfl) rfl rfl ?_
 refine ap (cV rfl rfl) rfl rfl ?_
 refine aC (t := 93) rfl (fun h20_4 => ?_) (fun h20_4 => ?_)
 have hj : j < drop.length := by omega
 have hbj := hdb9 _ (bE (d := ([] : bg)) hj)
 refine ae ?_
 refine ao ?_
 refine aI rfl ?_
 refine bd ?_
 refine ao ?_
 refine ar ?_
 refine bn ?_
 refine ar ?_
 refine ah ?_
 refine ap (aF ef rfl) rfl rfl ?_
 refine ap (aG 7 fO rfl rfl rfl) rfl rfl ?_
 refine ap (am rfl) rfl rfl ?_
 refine ap (cj  Try.underlying25 bF rfl rfl (cD 4 rfl) rfl (by omega)) rfl rfl ?_
 refine ap (cR bB ([] : bg) bF rfl (cD 4 rfl) (by omega) rfl rfl) rfl rfl ?_
 refine ap (am rfl) rfl rfl ?_
 refine bR rfl ent_19 (je _ _ (by omega) (by omega)) rfl ?_
 refine bS (t := 102) rfl (fun h22_6 => ?_) (fun h22_6 => ?_)
 have hf9 := opt_none17 (push_drop hA hx1 hj h22_6)
 refine ae ?_
 refine ao ?_
 refine aI rfl ?_
 refine ar ?_
 refine ah ?_
 refine ap (am rfl) rfl rfl ?_
 refine dx (t := 103) (.bool false) rfl (congrArg Value.bool hf9) ?_
 refine ap (ct rfl) rfl rfl ?_
 refine ap (ai rfl) rfl rfl ?_
 refine ae ?_
 refine ao ?_
 refine aV ?_
 refine aT ?_
 refine aB ?_
 refine bL ?_
 refine aT ?_
 refine aB ?_
 refine aY (ts := [6]) rfl rfl rfl (fun w hw => ?_)
 exact ⟨(), rfl, hw.base, (hw.weak (List.nil_sublist _) (fun s hs => hs)).toNews⟩
 refine ae ?_
 refine ao ?_
 refine aN rfl ?_
 refine bd ?_
 refine bV ?_
 refine ao ?_
 refine ah ?_
 refine ap (am rfl) rfl rfl ?_
 refine ap (bY rfl rfl (by omega) (by omega)) rfl rfl ?_
 refine ap (ai rfl) rfl rfl ?_
 refine ae ?_
 refine cr (j + 1) ?_ ?_ ⟨rfl, trivial⟩ (by repeat (first | exact trivial | refine ⟨rfl, ?_⟩)) aD
 refine ⟨by omega, fun q hq => ?_⟩
 by_cases e : q = j
 · rw [e]; exact h22_6
 · exact hI.2 q (by omega)
 omega
 refine ae ?_
 refine ao ?_
 refine aN rfl ?_
 refine cz ?_
 refine br ?_
 refine bC ?_
 refine bK ?_
 refine ao ?_
 refine ar ?_
 have hx2 := push_else hA hx1 (fun q hq => hIp q (by omega)) (fun q hq => hI.2 q (by omega))
 refine ah ?_
 refine ap (bp 8 aZ rfl rfl rfl rfl) rfl rfl ?_
 refine ap (am rfl) rfl rfl ?_
 refine gV rfl ent_18 rfl (c_tFind v l _ _ n hok (by omega) (by omega)) (fun w hw => (ak (bW 0 rfl hw) (ak (bW 1 rfl hw) aO))) (fun ⟨y9, hy9⟩ => ?_)
 refine ap (am rfl) rfl rfl ?_
 refine ap (az rfl rfl) rfl rfl ?_
 refine ap (az rfl rfl) rfl rfl ?_
 refine bu a7 rfl rfl (fun b10 => ?_)
 refine aS a7 rfl rfl rfl .z rfl rfl rfl rfl ?_
 refine ap (ai rfl) rfl rfl ?_
 refine ae ?_
 refine ao ?_
 refine ar ?_
 refine ar ?_
 refine ah ?_
 refine ap (aF g8 rfl) rfl rfl ?_
 refine ap (aG 8 ty_4 rfl rfl rfl) rfl rfl ?_
 refine bS (t := 112) rfl (fun h25_1 => ?_) (fun h25_1 => ?_)
 refine ae ?_
 refine ao ?_
 refine aI rfl ?_
 refine ar ?_
 refine ah ?_
 refine ap (am rfl) rfl rfl ?_
 refine dx (t := 113) (.bool false) rfl (congrArg Value.bool (opt_none17 (hx2.trans (if_pos h25_1)))) ?_
 refine ap (ct rfl) rfl rfl ?_
 refine ap (ai rfl) rfl rfl ?_
 refine ae ?_
 refine ao ?_
 refine aV ?_
 refine aB ?_
 refine aY (ts := [6]) rfl rfl rfl (fun w hw => ?_)
 exact ⟨(), rfl, hw.base, (hw.weak (List.nil_sublist _) (fun s hs => hs)).toNews⟩
 refine ae ?_
 refine ao ?_
 refine aN rfl ?_
 refine bd ?_
 refine ao ?_
 refine ar ?_
 refine ah ?_
 refine ap (am rfl) rfl rfl ?_
 refine ap (am rfl) rfl rfl ?_
 refine ap (y_eqlb Try.underlying4 rfl rfl) rfl rfl ?_
 refine fd (t := 117) rfl (opt_e17 (hx2.trans ((if_neg (by rw [h25_1]; decide)).trans hy9.1.symm))).1 ?_
 refine ap (am rfl) rfl rfl ?_
 refine aw rfl rfl ?_
 refine ap (bp 1 a7 rfl rfl rfl rfl) rfl rfl ?_
 refine aw rfl rfl ?_
 refine ap (bp 0 a7 rfl rfl rfl rfl) rfl rfl ?_
 refine aw rfl rfl ?_
 refine bi rfl ent_20 rfl (gA (x9.getD bO).e (x9.getD bO).A (x9.getD bO).B (x9.getD bO).c (x9.getD bO).d (y9.getD bO).e (y9.getD bO).A (y9.getD bO).B (y9.getD bO).c (y9.getD bO).d (by have := hxb.la; omega) (by have := hxb.lp; omega)) (fun w hw => (ak ((rd_fe (ci 3 rfl hw) hx9.2).1) (ak ((rd_fe (ci 3 rfl hw) hx9.2).2) (ak ((rd_fe (bW 1 rfl hw) hy9.2).1) (ak ((rd_fe (bW 1 rfl hw) hy9.2).2) aO))))) ?_
 refine dx (t := 121) (.bool true) rfl (congrArg Value.bool (decide_eq_true (opt_e17 (hx2.trans ((if_neg (by rw [h25_1]; decide)).trans hy9.1.symm))).2)) ?_
 refine ap (aM rfl rfl) rfl rfl ?_
 refine ap (ai rfl) rfl rfl ?_
 refine ae ?_
 refine ao ?_
 refine aV ?_
 refine aY (ts := [6]) rfl rfl rfl (fun w hw => ?_)
 exact ⟨(), rfl, hw.base, (hw.weak (List.nil_sublist _) (fun s hs => hs)).toNews⟩
 refine aw rfl rfl ?_
 refine ap (ct rfl) rfl rfl ?_
 refine ap (aQ rfl rfl) rfl rfl ?_
 refine ap (am rfl) rfl rfl ?_
 refine aq rfl rfl rfl rfl ?_
 refine aq rfl rfl rfl rfl ?_
 refine aq rfl rfl rfl rfl ?_
 refine ap (aM rfl rfl) rfl rfl ?_
 refine ae ?_
 refine ao ?_
 refine aI rfl ?_
 refine ar ?_
 refine ah ?_
 refine ap (ai rfl) rfl rfl ?_
 refine ae ?_
 refine ao ?_
 refine aV ?_
 refine aB ?_
 refine aY (ts := [6]) rfl rfl rfl (fun w hw => ?_)
 exact ⟨(), rfl, hw.base, (hw.weak (List.nil_sublist _) (fun s hs => hs)).toNews⟩
 refine ap (ct rfl) rfl rfl ?_
 refine ap (am rfl) rfl rfl ?_
 refine aq rfl rfl rfl rfl ?_
 refine aq rfl rfl rfl rfl ?_
 refine aq rfl rfl rfl rfl ?_
 refine ap (aM rfl rfl) rfl rfl ?_
 refine ap (am rfl) rfl rfl ?_
 refine aq rfl rfl rfl rfl ?_
 refine aq rfl rfl rfl rfl ?_
 refine aq rfl rfl rfl rfl ?_
 refine ap (aM rfl rfl) rfl rfl ?_
 refine ae ?_
 refine ao ?_
 refine aI rfl ?_
 refine ar ?_
 refine ah ?_
 refine ap (ai rfl) rfl rfl ?_
 refine ae ?_
 refine ao ?_
 refine aV ?_
 refine aB ?_
 refine aY (ts := [6]) rfl rfl rfl (fun w hw => ?_)
 exact ⟨(), rfl, hw.base, (hw.weak (List.nil_sublist _) (fun s hs => hs)).toNews⟩
end Go.Proofs.Ytnpdgmoeoidppaa

/- The caps of slices that lie in structs. -/
namespace Go.Proofs.Ytnpdgmoeoidppaa
open Go.RowKit Go.Shelf
set_option linter.unusedVariables false
theorem cell_cap {P : Program} {W : World} {base : Nat} {t e : TypeId} {A : Option Addr} {n c : Nat} (ht : P.underlying t = some (.slice e)) (h : Cell.okWide P W .any base t (.slice A n c)) : n ≤ c := by
  unfold Cell.okWide at h
  rw [ht] at h
  have h : Cell.ok P W .any base t (.slice A n c) := h
  unfold Cell.ok at h
  rw [ht] at h
  cases A with
  | some a => exact h.1
  | none =>
    by_cases q : n = 0
    · omega
    · exfalso
      cases n with
      | zero => exact q rfl
      | succ n => exact h
theorem op_fcap {P : Program} {W : World} {base : Nat} {t u e : TypeId} {fs} {ts : List TypeId} {cs : Array Value} {A : Option Addr} {n c : Nat} (ht : P.underlying t = some (.struct fs)) (h : Value.okWide P W .any base t (.agg cs)) (i : Nat) (hts : P.cellTypes P.depth t = some ts) (hi : ts[i % ts.length]? = some u) (hu : P.underlying u = some (.slice e)) (hc : cs[i]? = some (.slice A n c)) : n ≤ c := by
  unfold Value.okWide at h
  rw [ht] at h
  obtain ⟨cs2, he, _, ts2, hts2, _, hall⟩ := h
  obtain rfl := Value.agg.inj he
  obtain rfl : ts = ts2 := Option.some.inj (hts.symm.trans hts2)
  obtain ⟨u2, hu2, hok⟩ := hall i _ hc
  obtain rfl : u = u2 := Option.some.inj (hi.symm.trans hu2)
  exact cell_cap hu hok
end Go.Proofs.Ytnpdgmoeoidppaa

/- law 17: a push that is handed in -/
namespace Go.Proofs.Ytnpdgmoeoidppaa
open Go.RowKit Go.Shelf
set_option linter.unusedVariables false
set_option linter.unusedSimpArgs false

theorem dc_nms {w : World} : Dc Try.prog w 25 (fun p : List bg × Option Addr × Nat => [.slice p.2.1 p.1.length p.2.2]) (fun p => Ch.rd p.2.1 1 ed p.1 :: p.1.flatMap (fun _ => [])) (fun p => p.1.length ≤ 9223372036854775807 ∧ ∀ s ∈ p.1, s.length ≤ 9223372036854775807) := jd Try.underlying25 (by kernel_rfl) (by decide) bB (dc_str Try.underlying37)

theorem dc_push {w : World} : Dc Try.prog w 27 (α := Bool × Int × Int × (List Le × Option Addr × Nat) × List bg × Option Addr × Nat) (fun q => eJ q.1 q.2.1 q.2.2.1 q.2.2.2.1.2.1 q.2.2.2.1.1.length q.2.2.2.1.2.2 q.2.2.2.2.2.1 q.2.2.2.2.1.length q.2.2.2.2.2.2) (fun q => [Ch.rd q.2.2.2.1.2.1 7 d4 q.2.2.2.1.1, Ch.rall (q.2.2.2.1.1.flatMap ff), Ch.rd q.2.2.2.2.2.1 1 ed q.2.2.2.2.1]) (fun q => (q.2.2.2.1.1.length ≤ 9223372036854775807 ∧ ∀ x ∈ q.2.2.2.1.1, EnOk x.e) ∧ q.2.2.2.2.1.length ≤ 9223372036854775807) := fun H enc base sp hd fuel cs x h => by
  obtain ⟨xs, n, rfl, _, hcl, hxl, hf⟩ := DataW.trod_struct Try.underlying27 h
  have hcl2 : cs.length = 5 := hcl.trans (by kernel_rfl)
  obtain ⟨x0, c0, r0, o0⟩ := dp hxl hf 0 (ft := 4) (off := 0) (k := 1) (by kernel_rfl) (by kernel_rfl) (dc_bool Try.underlying4)
  obtain ⟨x1, c1, r1, o1⟩ := dp hxl hf 1 (ft := 3) (off := 1) (k := 1) (by kernel_rfl) (by kernel_rfl) (gU Try.underlying3)
  obtain ⟨x2, c2, r2, o2⟩ := dp hxl hf 2 (ft := 3) (off := 2) (k := 1) (by kernel_rfl) (by kernel_rfl) (gU Try.underlying3)
  obtain ⟨⟨x3, P, pc⟩, c3, r3, o3⟩ := dp hxl hf 3 (ft := 22) (off := 3) (k := 1) (by kernel_rfl) (by kernel_rfl) dc_ents
  obtain ⟨⟨x4, D, dc⟩, c4, r4, o4⟩ := dp hxl hf 4 (ft := 25) (off := 4) (k := 1) (by kernel_rfl) (by kernel_rfl) dc_nms
  have hcs := cut0 (gW c0 (gW c1 (gW c2 (gW c3 (gW c4 (cutn hcl2) rfl) rfl) rfl) rfl) rfl)
  exact ⟨(x0, x1, x2, (x3, P, pc), x4, D, dc), hcs, ak (r3 _ List.mem_cons_self) (ak (bo (fun s hs => r3 s (.tail _ hs))) (ak (r4 _ List.mem_cons_self) nofun)), o3, o4.1⟩
end Go.Proofs.Ytnpdgmoeoidppaa
