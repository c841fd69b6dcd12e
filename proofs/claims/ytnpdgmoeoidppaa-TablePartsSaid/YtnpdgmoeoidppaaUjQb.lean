import Derived.Test.YtnpdgmoeoidppaaUiQb
/- law 17: a delta in two parts -/
namespace Go.Proofs.Ytnpdgmoeoidppaa
open Go.RowKit Go.Shelf
set_option linter.unusedVariables false
set_option linter.unusedSimpArgs false

theorem bu_27_1_2_3 (x0 : Int) (x1 : Int) (x2 : Option Addr) (x3 : Nat) (x4 : Nat) : Try.prog.built 27 [(1, .int .i64 x0), (2, .int .i64 x1), (3, .slice x2 x3 x4)] = some [.bool false, .int .i64 x0, .int .i64 x1, .slice x2 x3 x4, .slice none 0 0].toArray := by kernel_rfl

set_option maxRecDepth 100000 in
set_option maxHeartbeats 4000000 in
theorem c_TableParts (v : Int) (l : List Le) (A : Option Addr) (c : Nat) (full : Bool) (bs ver : Int) (put : List Le) (P : Option Addr) (pc : Nat) (drop : List bg) (D : Option Addr) (dc : Nat) (cq : Int) (hen : ∀ x ∈ l, EnOk x.e) (hll : l.length ≤ 9223372036854775807) (hpen : ∀ x ∈ put, EnOk x.e) (hpll : put.length ≤ 9223372036854775807) (hdll : drop.length ≤ 9223372036854775807) (hpc : put.length ≤ pc) : RC Try.prog 3 #[.agg (cU v A l.length c).toArray, .agg (eJ full bs ver P put.length pc D drop.length dc).toArray, .int .i64 cq] [Ch.rd A 7 d4 l, Ch.rall (l.flatMap ff), Ch.rd P 7 d4 put, Ch.rall (put.flatMap ff), Ch.rd D 1 ed drop] (α := Unit) (fun _ => .bool true) (fun _ => []) := by
 refine bZ (args := [.agg (cU v A l.length c).toArray, .agg (eJ full bs ver P put.length pc D drop.length dc).toArray, .int .i64 cq]) 98 Try.func3 rfl rfl rfl (fun w0 => ?_)
 refine ar ?_
 refine ah ?_
 refine cT rfl rfl rfl (fun b1 => ?_)
 refine cT rfl rfl rfl (fun b2 => ?_)
 refine ap (ai rfl) rfl rfl ?_
 refine ae ?_
 refine ao ?_
 refine ar ?_
 refine ar ?_
 refine ah ?_
 refine bR rfl ent_9 c_lives17 rfl ?_
 refine dx (t := 13) (.bool true) rfl (congrArg Value.bool rfl) ?_
 refine ap (ct rfl) rfl rfl ?_
 refine ae ?_
 refine ao ?_
 refine aN rfl ?_
 refine bd ?_
 refine ao ?_
 refine ar ?_
 refine ar ?_
 refine ah ?_
 refine ap (bp 1 aZ rfl rfl rfl rfl) rfl rfl ?_
 refine bi rfl ent_10 rfl (g2 v l _ _ (by omega)) (fun w hw => (ak (bW 0 rfl hw) aO)) ?_
 refine bS (t := 16) rfl (fun h3_1 => ?_) (fun h3_1 => ?_)
 have hle9 := eX h3_1
 have hok : TbOk l := fun x hx => ⟨hen x hx, hle9.1 x hx⟩
 have hl9 := hle9.2
 refine ap (ct rfl) rfl rfl ?_
 refine ap (am rfl) rfl rfl ?_
 refine aw rfl rfl ?_
 refine ap (bp 0 er rfl rfl rfl rfl) rfl rfl ?_
 refine aw rfl rfl ?_
 refine bi rfl ent_11 rfl (c_LightPush full bs ver put P pc drop D dc 40 hpll hdll) (fun w hw => (ak (bW 2 rfl hw) (ak (bW 4 rfl hw) aO))) ?_
 refine bS (t := 20) rfl (fun h3_5 => ?_) (fun h3_5 => ?_)
 have hlp := (Bool.and_eq_true _ _).mp h3_5
 have hlp1 := eX hlp.1
 have hlp2 := lightN_le hlp.2
 have hpok : TbOk put := fun x hx => ⟨hpen x hx, hlp1.1 x hx⟩
 have hlp3 := hlp1.2
 have hlp4 := hlp2.2
 have hdb9 : ∀ n ∈ drop, n.length ≤ 1000 := fun n hn => Nat.le_trans (hlp2.1 n hn) (by decide)
 refine aw rfl rfl ?_
 refine ap (ct rfl) rfl rfl ?_
 refine ap (aQ rfl rfl) rfl rfl ?_
 refine ap (am rfl) rfl rfl ?_
 refine aw rfl rfl ?_
 refine ap (aF g8 rfl) rfl rfl ?_
 refine aw rfl rfl ?_
 refine ap (aG 0 ty_4 rfl rfl rfl) rfl rfl ?_
 refine bS (t := 25) rfl (fun h3_10 => ?_) (fun h3_10 => ?_)
 refine ap (aQ rfl rfl) rfl rfl ?_
 refine ap (am rfl) rfl rfl ?_
 refine aq rfl rfl rfl rfl ?_
 refine aq rfl rfl rfl rfl ?_
 refine aq rfl rfl rfl rfl ?_
 refine aq rfl rfl rfl rfl ?_
 refine aq rfl rfl rfl rfl ?_
 refine ap (aM rfl rfl) rfl rfl ?_
 refine ap (am rfl) rfl rfl ?_
 refine aq rfl rfl rfl rfl ?_
 refine aq rfl rfl rfl rfl ?_
 refine aq rfl rfl rfl rfl ?_
 refine ap (aM rfl rfl) rfl rfl ?_
 refine ae ?_
 refine ao ?_
 refine aI rfl ?_
 refine ar ?_
 refine ah ?_
 refine ap (ai rfl) rfl rfl ?_
 refine ae ?_
 refine ao ?_
 refine aV ?_
 refine aB ?_
 refine aY (ts := [6]) rfl rfl rfl (fun w hw => ?_)
 exact ⟨(), rfl, hw.base, (hw.weak (List.nil_sublist _) (fun s hs => hs)).toNews⟩
 subst h3_10
 refine ap (aQ rfl rfl) rfl rfl ?_
 refine ap (am rfl) rfl rfl ?_
 refine aw rfl rfl ?_
 refine ap (aF eQ rfl) rfl rfl ?_
 refine aw rfl rfl ?_
 refine ap (aG 0 cW rfl rfl rfl) rfl rfl ?_
 refine aw rfl rfl ?_
 refine ap (aF cX rfl) rfl rfl ?_
 refine aw rfl rfl ?_
 refine ap (aG 1 cW rfl rfl rfl) rfl rfl ?_
 refine aw rfl rfl ?_
 refine ap (eP rfl rfl) rfl rfl ?_
 refine aC (t := 32) rfl (fun h3_17 => ?_) (fun h3_17 => ?_)
 refine ap (aQ rfl rfl) rfl rfl ?_
 refine ap (am rfl) rfl rfl ?_
 refine aq rfl rfl rfl rfl ?_
 refine aq rfl rfl rfl rfl ?_
 refine aq rfl rfl rfl rfl ?_
 refine ap (aM rfl rfl) rfl rfl ?_
 refine ae ?_
 refine ao ?_
 refine aI rfl ?_
 refine ar ?_
 refine ah ?_
 refine ap (ai rfl) rfl rfl ?_
 refine ae ?_
 refine ao ?_
 refine aV ?_
 refine aB ?_
 refine aY (ts := [6]) rfl rfl rfl (fun w hw => ?_)
 exact ⟨(), rfl, hw.base, (hw.weak (List.nil_sublist _) (fun s hs => hs)).toNews⟩
 refine ap (aQ rfl rfl) rfl rfl ?_
 refine ap (am rfl) rfl rfl ?_
 refine aw rfl rfl ?_
 refine ap (aF eQ rfl) rfl rfl ?_
 refine aw rfl rfl ?_
 refine ap (aG 0 cW rfl rfl rfl) rfl rfl ?_
 refine aw rfl rfl ?_
 refine ap (gR rfl rfl) rfl rfl ?_
 refine aC (t := 37) rfl (fun h3_22 => ?_) (fun h3_22 => ?_)
 refine ap (aQ rfl rfl) rfl rfl ?_
 refine ae ?_
 refine ao ?_
 refine aI rfl ?_
 refine ar ?_
 refine ah ?_
 refine ap (ai rfl) rfl rfl ?_
 refine ae ?_
 refine ao ?_
 refine aV ?_
 refine aB ?_
 refine aY (ts := [6]) rfl rfl rfl (fun w hw => ?_)
 exact ⟨(), rfl, hw.base, (hw.weak (List.nil_sublist _) (fun s hs => hs)).toNews⟩
 refine ap (aQ rfl rfl) rfl rfl ?_
 refine ae ?_
 refine ao ?_
 refine aN rfl ?_
 refine bd ?_
 refine ao ?_
 refine ar ?_
 refine ah ?_
 refine ap (bp 1 aZ rfl rfl rfl rfl) rfl rfl ?_
 refine ap (bp 0 er rfl rfl rfl rfl) rfl rfl ?_
 refine a6 rfl aU rfl (a8 v l _ _ false bs ver put _ _ drop _ _ hok hpok (by omega) (by omega) (by omega) hdb9) (fun w hw => (ak (bW 0 rfl hw) (ak (bW 1 rfl hw) (ak (bW 2 rfl hw) (ak (bW 3 rfl hw) (ak (bW 4 rfl hw) aO)))))) (fun ⟨⟨ta, Aa, ca⟩, hta⟩ => ?_)
 have htaok : TbOk ta := ap_tb hok hpok hta
 have htal : ta.length ≤ 256 := fW hta
 refine ap (am rfl) rfl rfl ?_
 refine ap (az rfl rfl) rfl rfl ?_
 refine ap (az rfl rfl) rfl rfl ?_
 refine bu aZ rfl rfl (fun b4 => ?_)
 refine aS aZ rfl rfl rfl .z rfl rfl rfl rfl ?_
 refine ap (ai rfl) rfl rfl ?_
 refine ae ?_
 refine ao ?_
 refine ar ?_
 refine ar ?_
 refine ah ?_
 refine ap (am rfl) rfl rfl ?_
 refine ap (db rfl rfl) rfl rfl ?_
 refine aC (t := 46) rfl (fun h6_1 => ?_) (fun h6_1 => ?_)
 refine ae ?_
 refine ao ?_
 refine aI rfl ?_
 refine ar ?_
 refine ah ?_
 refine ap (ai rfl) rfl rfl ?_
 refine ae ?_
 refine ao ?_
 refine aV ?_
 refine aB ?_
 refine aY (ts := [6]) rfl rfl rfl (fun w hw => ?_)
 exact ⟨(), rfl, hw.base, (hw.weak (List.nil_sublist _) (fun s hs => hs)).toNews⟩
 have hz : (bM v l false bs ver put drop).1 = 0 := Decidable.not_not.1 h6_1
 have hA := apply_ok.1 (iG hz)
 have hv0 := (ee hA.tab).2.2.2.1
 refine ae ?_
 refine ao ?_
 refine aN rfl ?_
 refine bd ?_
 refine ao ?_
 refine ar ?_
 refine ah ?_
 refine ap (am rfl) rfl rfl ?_
 refine ap (aF dz rfl) rfl rfl ?_
 refine ap (aG 3 bU rfl rfl rfl) rfl rfl ?_
 refine ap (bI Try.underlying22 rfl) rfl rfl ?_
 refine ap (bY rfl rfl (by omega) (by omega)) rfl rfl ?_
 refine bR rfl ent_13 (c_kit_Pick _ _ (by omega) (by omega)) rfl ?_
 obtain ⟨k, hkp, hkl⟩ := pick_nat cq put.length
 refine dx (t := 52) (.int .i64 k) rfl (by rw [← hkp]) ?_
 obtain ⟨m, hm, hr, hA1⟩ := part_one hA k
 have hb9 := apply_ok.2 hA1
 have htk9 : TbOk (put.take k) := fun x hx => hpok x (List.mem_of_mem_take hx)
 have hdk9 : TbOk (put.drop k) := fun x hx => hpok x (List.mem_of_mem_drop hx)
 refine ap (ai rfl) rfl rfl ?_
 refine ae ?_
 refine ao ?_
 refine ar ?_
 refine gB 19 rfl mixed ?_
 refine au (i := 0) rfl aa (bp 4 aZ rfl rfl rfl rfl) aD aD rfl (aj av) (by kernel_rfl) rfl ?_
 refine au (i := 1) rfl aa (aF fa_27_1 rfl) aD aD rfl (aj av) (by kernel_rfl) rfl ?_
 refine au (i := 2) rfl aa (aG 3 cW rfl rfl rfl) aD aD rfl (aj av) (by kernel_rfl) rfl ?_
 refine au (i := 3) rfl aa (aF eQ rfl) aD aD rfl (aj av) (by kernel_rfl) rfl ?_
 refine au (i := 4) rfl aa (aG 3 cW rfl rfl rfl) aD aD rfl (aj av) (by kernel_rfl) rfl ?_
 refine au (i := 5) rfl aa (aF dz rfl) aD aD rfl (aj av) (by kernel_rfl) rfl ?_
 refine au (i := 6) rfl aa (aG 3 bU rfl rfl rfl) aD aD rfl (aj av) (by kernel_rfl) rfl ?_
 refine au (i := 7) rfl aa (am rfl) aD aD rfl (aj av) (by kernel_rfl) rfl ?_
 refine au (i := 8) rfl aa (y_takes (m := k) Try.underlying22 a7 rfl rfl (by omega) (by omega) (fun w hw => hpc)) aD aD rfl (aj av) (by kernel_rfl) rfl ?_
 refine au (i := 9) rfl aa (aF ef rfl) aD aD rfl (aj av) (by kernel_rfl) rfl ?_
 refine au (i := 10) rfl aa (aG 3 fO rfl rfl rfl) aD aD rfl (aj av) (by kernel_rfl) rfl ?_
 refine au (i := 11) rfl aa (bm rfl (aR _ _ _ _ _ _ _ _)) aD aD rfl (aj av) (by kernel_rfl) rfl ?_
 refine bJ (js := [12, 16]) (by kernel_rfl) rfl ?_
 refine aJ (i := 12) rfl rfl rfl (aH rfl aU) rfl ?_ ?_
 refine a6 rfl aU rfl (a8 v l _ _ false bs ver (put.take k) _ _ drop _ _ hok htk9 (by omega) (by rw [List.length_take]; omega) (by omega) hdb9) (fun w hw => (ak (bW 0 rfl hw) (ak (bW 1 rfl hw) (ak (rd_takeS bl 2 rfl (by omega) hw) (ak (fc (bW 3 rfl hw) (fb (fun x hx => List.mem_of_mem_take hx))) (ak (bW 4 rfl hw) aO)))))) (fun ⟨⟨tb, Ab, cb⟩, htb⟩ => ?_)
 refine ae ?_
 refine ay (aL 2) ?_
 have hb8 : (bM v l false bs ver (put.take k) drop).1 = 0 := by rw [hb9]
 have htbe : tb.map (·.e) = (de m (put.take k)).map (·.e) := by rw [htb, hb9]
 have htbok : TbOk tb := ap_tb hok htk9 htb
 have htbl : tb.length ≤ 256 := fW htb
 refine bN (t := 66) (.tuple #[.agg (cU ver Ab tb.length cb).toArray, .int .i64 0]) rfl (by rw [hb8]; rfl) ?_
 obtain ⟨r2, hA2, he2⟩ := part_two hA k (by omega) hr hA1 htbe
 have hc9 := apply_ok.2 hA2
 refine au (i := 13) rfl aa (am rfl) (aL 2) aD rfl (aj av) (by kernel_rfl) rfl ?_
 refine au (i := 14) rfl aa (az rfl rfl) (aL 2) aD rfl (aj av) (by kernel_rfl) rfl ?_
 refine au (i := 15) rfl aa (az rfl rfl) (aL 2) aD rfl (aj av) (by kernel_rfl) rfl ?_
 refine aP (i := 16) rfl rfl rfl (fun _ _ _ => ax (by kernel_rfl)) (by kernel_rfl) rfl ?_
 refine bu aZ rfl rfl (fun b6 => ?_)
 refine ae ?_
 refine ay (aL 3) ?_
 refine aP (i := 17) rfl rfl rfl (fun _ _ _ => ax (by kernel_rfl)) (by kernel_rfl) rfl ?_
 refine aS aZ rfl rfl rfl .z rfl rfl rfl rfl ?_
 refine ae ?_
 refine ay (aL 3) ?_
 refine au (i := 18) rfl aa (ai rfl) (aL 3) aD rfl (aj av) (by kernel_rfl) rfl ?_
 refine bA (by kernel_rfl) ?_
 refine ao ?_
 refine ar ?_
 refine gB 18 rfl mixed ?_
 refine au (i := 0) rfl aa (bp 0 aZ rfl rfl rfl rfl) aD aD rfl (aj av) (by kernel_rfl) rfl ?_
 refine au (i := 1) rfl aa (aF eQ rfl) aD aD rfl (aj av) (by kernel_rfl) rfl ?_
 refine au (i := 2) rfl aa (aG 6 cW rfl rfl rfl) aD aD rfl (aj av) (by kernel_rfl) rfl ?_
 refine au (i := 3) rfl aa (aF eQ rfl) aD aD rfl (aj av) (by kernel_rfl) rfl ?_
 refine au (i := 4) rfl aa (aG 6 cW rfl rfl rfl) aD aD rfl (aj av) (by kernel_rfl) rfl ?_
 refine au (i := 5) rfl aa (bY rfl rfl (by omega) (by omega)) aD aD rfl (aj av) (by kernel_rfl) rfl ?_
 refine au (i := 6) rfl aa (aF dz rfl) aD aD rfl (aj av) (by kernel_rfl) rfl ?_
 refine au (i := 7) rfl aa (aG 6 bU rfl rfl rfl) aD aD rfl (aj av) (by kernel_rfl) rfl ?_
 refine au (i := 8) rfl aa (am rfl) aD aD rfl (aj av) (by kernel_rfl) rfl ?_
 refine au (i := 9) rfl aa (gI (m := k) Try.underlying22 a7 rfl rfl (by omega) (by omega)) aD aD rfl (aj av) (by kernel_rfl) rfl ?_
 refine au (i := 10) rfl aa (bm rfl (bu_27_1_2_3 _ _ _ _ _)) aD aD rfl (aj av) (by kernel_rfl) rfl ?_
 refine bJ (js := [11, 15]) (by kernel_rfl) rfl ?_
 refine aJ (i := 11) rfl rfl rfl (aH rfl aU) rfl ?_ ?_
 refine a6 rfl aU rfl (a8 ver tb _ _ false ver (ver + 1) (put.drop k) _ _ [] _ _ htbok hdk9 (by omega) (by rw [List.length_drop]; omega) (by decide) nofun) (fun w hw => (ak (aK 2 rfl hw) (ak (ci 1 rfl hw) (ak (dL bl 2 rfl (by omega) hpc hw) (ak (fc (bW 3 rfl hw) (fb (fun x hx => List.mem_of_mem_drop hx))) (ak (eZ) aO)))))) (fun ⟨⟨tc, Ac, cc⟩, htc⟩ => ?_)
 refine ae ?_
 refine ay (aL 2) ?_
 have hc8 : (bM ver tb false ver (ver + 1) (put.drop k) []).1 = 0 := by rw [hc9]
 have htce : tc.map (·.e) = (bM v l false bs ver put drop).2.map (·.e) := by rw [htc, hc9]; exact he2
 have htcl : tc.length ≤ 256 := fW htc
 refine bN (t := 81) (.tuple #[.agg (cU (ver + 1) Ac tc.length cc).toArray, .int .i64 0]) rfl (by rw [hc8]; rfl) ?_
 refine au (i := 12) rfl aa (am rfl) (aL 2) aD rfl (aj av) (by kernel_rfl) rfl ?_
 refine au (i := 13) rfl aa (az rfl rfl) (aL 2) aD rfl (aj av) (by kernel_rfl) rfl ?_
 refine au (i := 14) rfl aa (az rfl rfl) (aL 2) aD rfl (aj av) (by kernel_rfl) rfl ?_
 refine aP (i := 15) rfl rfl rfl (fun _ _ _ => ax (by kernel_rfl)) (by kernel_rfl) rfl ?_
 refine bu aZ rfl rfl (fun b8 => ?_)
 refine ae ?_
 refine ay (aL 3) ?_
 refine aP (i := 16) rfl rfl rfl (fun _ _ _ => ax (by kernel_rfl)) (by kernel_rfl) rfl ?_
 refine aS aZ rfl rfl rfl .z rfl rfl rfl rfl ?_
 refine ae ?_
 refine ay (aL 3) ?_
 refine au (i := 17) rfl aa (ai rfl) (aL 3) aD rfl (aj av) (by kernel_rfl) rfl ?_
 refine bA (by kernel_rfl) ?_
 refine ao ?_
 refine ar ?_
 refine ah ?_
 refine ap (aF cX rfl) rfl rfl ?_
 refine ap (aG 6 cW rfl rfl rfl) rfl rfl ?_
 refine ap (aF cX rfl) rfl rfl ?_
 refine aS cW rfl rfl rfl .z rfl rfl rfl rfl ?_
 refine ae ?_
 refine ao ?_
 refine ar ?_
 refine ah ?_
 refine ap (am rfl) rfl rfl ?_
 refine ap (dg rfl rfl) rfl rfl ?_
 refine fd (t := 88) rfl rfl ?_
 refine ap (am rfl) rfl rfl ?_
 refine aw rfl rfl ?_
 refine ap (am rfl) rfl rfl ?_
 refine aw rfl rfl ?_
 refine ap (dg rfl rfl) rfl rfl ?_
 refine fd (t := 91) rfl rfl ?_
 refine ap (aM rfl rfl) rfl rfl ?_
 refine ap (am rfl) rfl rfl ?_
 refine aw rfl rfl ?_
 refine ap (bp 6 aZ rfl rfl rfl rfl) rfl rfl ?_
 refine aw rfl rfl ?_
 refine ap (bp 0 aZ rfl rfl rfl rfl) rfl rfl ?_
 refine aw rfl rfl ?_
 refine bi rfl ir rfl (gr (apV (bM v l false bs ver put drop).1 ver) ta _ _ (apV (bM v l false bs ver put drop).1 ver) tc _ _ htaok (by omega) (by omega)) (fun w hw => (ak (aK 8 rfl hw) (ak (ci 7 rfl hw) (ak (aK 2 rfl hw) (ak (ci 1 rfl hw) aO))))) ?_
 refine dx (t := 96) (.bool true) rfl (congrArg Value.bool (decide_eq_true ⟨rfl, hta.trans htce.symm⟩)) ?_
 refine ap (aM rfl rfl) rfl rfl ?_
 refine ap (ai rfl) rfl rfl ?_
 refine ae ?_
 refine ao ?_
 refine aV ?_
 refine aY (ts := [6]) rfl rfl rfl (fun w hw => ?_)
 exact ⟨(), rfl, hw.base, (hw.weak (List.nil_sublist _) (fun s hs => hs)).toNews⟩
 refine aJ (i := 15) rfl rfl rfl (fun _ _ _ => ax (by kernel_rfl)) rfl ?_ ?_
 refine bu aZ rfl rfl (fun b9 => ?_)
 refine ae ?_
 refine ay (aL 1) ?_
 refine aP (i := 11) rfl rfl rfl (aH rfl aU) (by kernel_rfl) rfl ?_
 refine a6 rfl aU rfl (a8 ver tb _ _ false ver (ver + 1) (put.drop k) _ _ [] _ _ htbok hdk9 (by omega) (by rw [List.length_drop]; omega) (by decide) nofun) (fun w hw => (ak (aK 3 rfl hw) (ak (ci 2 rfl hw) (ak (dL bl 2 rfl (by omega) hpc hw) (ak (fc (bW 3 rfl hw) (fb (fun x hx => List.mem_of_mem_drop hx))) (ak (eZ) aO)))))) (fun ⟨⟨tc, Ac, cc⟩, htc⟩ => ?_)
 refine ae ?_
 refine ay (aL 3) ?_
 have hc8 : (bM ver tb false ver (ver + 1) (put.drop k) []).1 = 0 := by rw [hc9]
 have htce : tc.map (·.e) = (bM v l false bs ver put drop).2.map (·.e) := by rw [htc, hc9]; exact he2
 have htcl : tc.length ≤ 256 := fW htc
 refine bN (t := 81) (.tuple #[.agg (cU (ver + 1) Ac tc.length cc).toArray, .int .i64 0]) rfl (by rw [hc8]; rfl) ?_
 refine au (i := 12) rfl aa (am rfl) (aL 3) aD rfl (aj av) (by kernel_rfl) rfl ?_
 refine au (i := 13) rfl aa (az rfl rfl) (aL 3) aD rfl (aj av) (by kernel_rfl) rfl ?_
 refine au (i := 14) rfl aa (az rfl rfl) (aL 3) aD rfl (aj av) (by kernel_rfl) rfl ?_
 refine aP (i := 16) rfl rfl rfl (fun _ _ _ => ax (by kernel_rfl)) (by kernel_rfl) rfl ?_
 refine aS aZ rfl rfl rfl (.s (.s (.z))) rfl rfl rfl rfl ?_
 refine ae ?_
 refine ay (aL 3) ?_
 refine au (i := 17) rfl aa (ai rfl) (aL 3) aD rfl (aj av) (by kernel_rfl) rfl ?_
 refine bA (by kernel_rfl) ?_
 refine ao ?_
 refine ar ?_
 refine ah ?_
 refine ap (aF cX rfl) rfl rfl ?_
 refine ap (aG 6 cW rfl rfl rfl) rfl rfl ?_
 refine ap (aF cX rfl) rfl rfl ?_
 refine aS cW rfl rfl rfl (.s (.s (.z))) rfl rfl rfl rfl ?_
 refine ae ?_
 refine ao ?_
 refine ar ?_
 refine ah ?_
 refine ap (am rfl) rfl rfl ?_
 refine ap (dg rfl rfl) rfl rfl ?_
 refine fd (t := 88) rfl rfl ?_
 refine ap (am rfl) rfl rfl ?_
 refine aw rfl rfl ?_
 refine ap (am rfl) rfl rfl ?_
 refine aw rfl rfl ?_
 refine ap (dg rfl rfl) rfl rfl ?_
 refine fd (t := 91) rfl rfl ?_
 refine ap (aM rfl rfl) rfl rfl ?_
 refine ap (am rfl) rfl rfl ?_
 refine aw rfl rfl ?_
 refine ap (bp 6 aZ rfl rfl rfl rfl) rfl rfl ?_
 refine aw rfl rfl ?_
 refine ap (bp 2 aZ rfl rfl rfl rfl) rfl rfl ?_
 refine aw rfl rfl ?_
 refine bi rfl ir rfl (gr (apV (bM v l false bs ver put drop).1 ver) ta _ _ (apV (bM v l false bs ver put drop).1 ver) tc _ _ htaok (by omega) (by omega)) (fun w hw => (ak (aK 8 rfl hw) (ak (ci 7 rfl hw) (ak (aK 1 rfl hw) (ak (ci 0 rfl hw) aO))))) ?_
 refine dx (t := 96) (.bool true) rfl (congrArg Value.bool (decide_eq_true ⟨rfl, hta.trans htce.symm⟩)) ?_
 refine ap (aM rfl rfl) rfl rfl ?_
 refine ap (ai rfl) rfl rfl ?_
 refine ae ?_
 refine ao ?_
 refine aV ?_
 refine aY (ts := [6]) rfl rfl rfl (fun w hw => ?_)
 exact ⟨(), rfl, hw.base, (hw.weak (List.nil_sublist _) (fun s hs => hs)).toNews⟩
 exact bx
 refine aJ (i := 16) rfl rfl rfl (fun _ _ _ => ax (by kernel_rfl)) rfl ?_ ?_
 refine bu aZ rfl rfl (fun b11 => ?_)
 refine ae ?_
 refine ay (aL 1) ?_
 refine aP (i := 12) rfl rfl rfl (aH rfl aU) (by kernel_rfl) rfl ?_
 refine a6 rfl aU rfl (a8 v l _ _ false bs ver (put.take k) _ _ drop _ _ hok htk9 (by omega) (by rw [List.length_take]; omega) (by omega) hdb9) (fun w hw => (ak (bW 0 rfl hw) (ak (bW 1 rfl hw) (ak (rd_takeS bl 2 rfl (by omega) hw) (ak (fc (bW 3 rfl hw) (fb (fun x hx => List.mem_of_mem_take hx))) (ak (bW 4 rfl hw) aO)))))) (fun ⟨⟨tb, Ab, cb⟩, htb⟩ => ?_)
 refine ae ?_
 refine ay (aL 3) ?_
 have hb8 : (bM v l false bs ver (put.take k) drop).1 = 0 := by rw [hb9]
 have htbe : tb.map (·.e) = (de m (put.take k)).map (·.e) := by rw [htb, hb9]
 have htbok : TbOk tb := ap_tb hok htk9 htb
 have htbl : tb.length ≤ 256 := fW htb
 refine bN (t := 66) (.tuple #[.agg (cU ver Ab tb.length cb).toArray, .int .i64 0]) rfl (by rw [hb8]; rfl) ?_
 obtain ⟨r2, hA2, he2⟩ := part_two hA k (by omega) hr hA1 htbe
 have hc9 := apply_ok.2 hA2
 refine au (i := 13) rfl aa (am rfl) (aL 3) aD rfl (aj av) (by kernel_rfl) rfl ?_
 refine au (i := 14) rfl aa (az rfl rfl) (aL 3) aD rfl (aj av) (by kernel_rfl) rfl ?_
 refine au (i := 15) rfl aa (az rfl rfl) (aL 3) aD rfl (aj av) (by kernel_rfl) rfl ?_
 refine aP (i := 17) rfl rfl rfl (fun _ _ _ => ax (by kernel_rfl)) (by kernel_rfl) rfl ?_
 refine aS aZ rfl rfl rfl (.s (.s (.z))) rfl rfl rfl rfl ?_
 refine ae ?_
 refine ay (aL 3) ?_
 refine au (i := 18) rfl aa (ai rfl) (aL 3) aD rfl (aj av) (by kernel_rfl) rfl ?_
 refine bA (by kernel_rfl) ?_
 refine ao ?_
 refine ar ?_
 refine gB 18 rfl mixed ?_
 refine au (i := 0) rfl aa (bp 2 aZ rfl rfl rfl rfl) aD aD rfl (aj av) (by kernel_rfl) rfl ?_
 refine au (i := 1) rfl aa (aF eQ rfl) aD aD rfl (aj av) (by kernel_rfl) rfl ?_
 refine au (i := 2) rfl aa (aG 6 cW rfl rfl rfl) aD aD rfl (aj av) (by kernel_rfl) rfl ?_
 refine au (i := 3) rfl aa (aF eQ rfl) aD aD rfl (aj av) (by kernel_rfl) rfl ?_
 refine au (i := 4) rfl aa (aG 6 cW rfl rfl rfl) aD aD rfl (aj av) (by kernel_rfl) rfl ?_
 refine au (i := 5) rfl aa (bY rfl rfl (by omega) (by omega)) aD aD rfl (aj av) (by kernel_rfl) rfl ?_
 refine au (i := 6) rfl aa (aF dz rfl) aD aD rfl (aj av) (by kernel_rfl) rfl ?_
 refine au (i := 7) rfl aa (aG 6 bU rfl rfl rfl) aD aD rfl (aj av) (by kernel_rfl) rfl ?_
 refine au (i := 8) rfl aa (am rfl) aD aD rfl (aj av) (by kernel_rfl) rfl ?_
 refine au (i := 9) rfl aa (gI (m := k) Try.underlying22 a7 rfl rfl (by omega) (by omega)) aD aD rfl (aj av) (by kernel_rfl) rfl ?_
 refine au (i := 10) rfl aa (bm rfl (bu_27_1_2_3 _ _ _ _ _)) aD aD rfl (aj av) (by kernel_rfl) rfl ?_
 refine bJ (js := [11, 15]) (by kernel_rfl) rfl ?_
 refine aJ (i := 11) rfl rfl rfl (aH rfl aU) rfl ?_ ?_
 refine a6 rfl aU rfl (a8 ver tb _ _ false ver (ver + 1) (put.drop k) _ _ [] _ _ htbok hdk9 (by omega) (by rw [List.length_drop]; omega) (by decide) nofun) (fun w hw => (ak (aK 1 rfl hw) (ak (ci 0 rfl hw) (ak (dL bl 2 rfl (by omega) hpc hw) (ak (fc (bW 3 rfl hw) (fb (fun x hx => List.mem_of_mem_drop hx))) (ak (eZ) aO)))))) (fun ⟨⟨tc, Ac, cc⟩, htc⟩ => ?_)
 refine ae ?_
 refine ay (aL 2) ?_
 have hc8 : (bM ver tb false ver (ver + 1) (put.drop k) []).1 = 0 := by rw [hc9]
 have htce : tc.map (·.e) = (bM v l false bs ver put drop).2.map (·.e) := by rw [htc, hc9]; exact he2
 have htcl : tc.length ≤ 256 := fW htc
 refine bN (t := 81) (.tuple #[.agg (cU (ver + 1) Ac tc.length cc).toArray, .int .i64 0]) rfl (by rw [hc8]; rfl) ?_
 refine au (i := 12) rfl aa (am rfl) (aL 2) aD rfl (aj av) (by kernel_rfl) rfl ?_
 refine au (i := 13) rfl aa (az rfl rfl) (aL 2) aD rfl (aj av) (by kernel_rfl) rfl ?_
 refine au (i := 14) rfl aa (az rfl rfl) (aL 2) aD rfl (aj av) (by kernel_rfl) rfl ?_
 refine aP (i := 15) rfl rfl rfl (fun _ _ _ => ax (by kernel_rfl)) (by kernel_rfl) rfl ?_
 refine bu aZ rfl rfl (fun b14 => ?_)
 refine ae ?_
 refine ay (aL 3) ?_
 refine aP (i := 16) rfl rfl rfl (fun _ _ _ => ax (by kernel_rfl)) (by kernel_rfl) rfl ?_
 refine aS aZ rfl rfl rfl .z rfl rfl rfl rfl ?_
 refine ae ?_
 refine ay (aL 3) ?_
 refine au (i := 17) rfl aa (ai rfl) (aL 3) aD rfl (aj av) (by kernel_rfl) rfl ?_
 refine bA (by kernel_rfl) ?_
 refine ao ?_
 refine ar ?_
 refine ah ?_
 refine ap (aF cX rfl) rfl rfl ?_
 refine ap (aG 6 cW rfl rfl rfl) rfl rfl ?_
 refine ap (aF cX rfl) rfl rfl ?_
 refine aS cW rfl rfl rfl .z rfl rfl rfl rfl ?_
 refine ae ?_
 refine ao ?_
 refine ar ?_
 refine ah ?_
 refine ap (am rfl) rfl rfl ?_
 refine ap (dg rfl rfl) rfl rfl ?_
 refine fd (t := 88) rfl rfl ?_
 refine ap (am rfl) rfl rfl ?_
 refine aw rfl rfl ?_
 refine ap (am rfl) rfl rfl ?_
 refine aw rfl rfl ?_
 refine ap (dg rfl rfl) rfl rfl ?_
 refine fd (t := 91) rfl rfl ?_
 refine ap (aM rfl rfl) rfl rfl ?_
 refine ap (am rfl) rfl rfl ?_
 refine aw rfl rfl ?_
 refine ap (bp 6 aZ rfl rfl rfl rfl) rfl rfl ?_
 refine aw rfl rfl ?_
 refine ap (bp 0 aZ rfl rfl rfl rfl) rfl rfl ?_
 refine aw rfl rfl ?_
 refine bi rfl ir rfl (gr (apV (bM v l false bs ver put drop).1 ver) ta _ _ (apV (bM v l false bs ver put drop).1 ver) tc _ _ htaok (by omega) (by omega)) (fun w hw => (ak (aK 8 rfl hw) (ak (ci 7 rfl hw) (ak (aK 2 rfl hw) (ak (ci 1 rfl hw) aO))))) ?_
 refine dx (t := 96) (.bool true) rfl (congrArg Value.bool (decide_eq_true ⟨rfl, hta.trans htce.symm⟩)) ?_
 refine ap (aM rfl rfl) rfl rfl ?_
 refine ap (ai rfl) rfl rfl ?_
 refine ae ?_
 refine ao ?_
 refine aV ?_
 refine aY (ts := [6]) rfl rfl rfl (fun w hw => ?_)
 exact ⟨(), rfl, hw.base, (hw.weak (List.nil_sublist _) (fun s hs => hs)).toNews⟩
 refine aJ (i := 15) rfl rfl rfl (fun _ _ _ => ax (by kernel_rfl)) rfl ?_ ?_
 refine bu aZ rfl rfl (fun b15 => ?_)
 refine ae ?_
 refine ay (aL 1) ?_
 refine aP (i := 11) rfl rfl rfl (aH rfl aU) (by kernel_rfl) rfl ?_
 refine a6 rfl aU rfl (a8 ver tb _ _ false ver (ver + 1) (put.drop k) _ _ [] _ _ htbok hdk9 (by omega) (by rw [List.length_drop]; omega) (by decide) nofun) (fun w hw => (ak (aK 2 rfl hw) (ak (ci 1 rfl hw) (ak (dL bl 2 rfl (by omega) hpc hw) (ak (fc (bW 3 rfl hw) (fb (fun x hx => List.mem_of_mem_drop hx))) (ak (eZ) aO)))))) (fun ⟨⟨tc, Ac, cc⟩, htc⟩ => ?_)
 refine ae ?_
 refine ay (aL 3) ?_
 have hc8 : (bM ver tb false ver (ver + 1) (put.drop k) []).1 = 0 := by rw [hc9]
 have htce : tc.map (·.e) = (bM v l false bs ver put drop).2.map (·.e) := by rw [htc, hc9]; exact he2
 have htcl : tc.length ≤ 256 := fW htc
 refine bN (t := 81) (.tuple #[.agg (cU (ver + 1) Ac tc.length cc).toArray, .int .i64 0]) rfl (by rw [hc8]; rfl) ?_
 refine au (i := 12) rfl aa (am rfl) (aL 3) aD rfl (aj av) (by kernel_rfl) rfl ?_
 refine au (i := 13) rfl aa (az rfl rfl) (aL 3) aD rfl (aj av) (by kernel_rfl) rfl ?_
 refine au (i := 14) rfl aa (az rfl rfl) (aL 3) aD rfl (aj av) (by kernel_rfl) rfl ?_
 refine aP (i := 16) rfl rfl rfl (fun _ _ _ => ax (by kernel_rfl)) (by kernel_rfl) rfl ?_
 refine aS aZ rfl rfl rfl (.s (.s (.z))) rfl rfl rfl rfl ?_
 refine ae ?_
 refine ay (aL 3) ?_
 refine au (i := 17) rfl aa (ai rfl) (aL 3) aD rfl (aj av) (by kernel_rfl) rfl ?_
 refine bA (by kernel_rfl) ?_
 refine ao ?_
 refine ar ?_
 refine ah ?_
 refine ap (aF cX rfl) rfl rfl ?_
 refine ap (aG 6 cW rfl rfl rfl) rfl rfl ?_
 refine ap (aF cX rfl) rfl rfl ?_
 refine aS cW rfl rfl rfl (.s (.s (.z))) rfl rfl rfl rfl ?_
 refine ae ?_
 refine ao ?_
 refine ar ?_
 refine ah ?_
 refine ap (am rfl) rfl rfl ?_
 refine ap (dg rfl rfl) rfl rfl ?_
 refine fd (t := 88) rfl rfl ?_
 refine ap (am rfl) rfl rfl ?_
 refine aw rfl rfl ?_
 refine ap (am rfl) rfl rfl ?_
 refine aw rfl rfl ?_
 refine ap (dg rfl rfl) rfl rfl ?_
 refine fd (t := 91) rfl rfl ?_
 refine ap (aM rfl rfl) rfl rfl ?_
 refine ap (am rfl) rfl rfl ?_
 refine aw rfl rfl ?_
 refine ap (bp 6 aZ rfl rfl rfl rfl) rfl rfl ?_
 refine aw rfl rfl ?_
 refine ap (bp 2 aZ rfl rfl rfl rfl) rfl rfl ?_
 refine aw rfl rfl ?_
 refine bi rfl ir rfl (gr (apV (bM v l false bs ver put drop).1 ver) ta _ _ (apV (bM v l false bs ver put drop).1 ver) tc _ _ htaok (by omega) (by omega)) (fun w hw => (ak (aK 8 rfl hw) (ak (ci 7 rfl hw) (ak (aK 1 rfl hw) (ak (ci 0 rfl hw) aO))))) ?_
 refine dx (t := 96) (.bool true) rfl (congrArg Value.bool (decide_eq_true ⟨rfl, hta.trans htce.symm⟩)) ?_
 refine ap (aM rfl rfl) rfl rfl ?_
 refine ap (ai rfl) rfl rfl ?_
 refine ae ?_
 refine ao ?_
 refine aV ?_
 refine aY (ts := [6]) rfl rfl rfl (fun w hw => ?_)
 exact ⟨(), rfl, hw.base, (hw.weak (List.nil_sublist _) (fun s hs => hs)).toNews⟩
 exact bx
 exact bx
 refine aw rfl rfl ?_
 refine ap (ct rfl) rfl rfl ?_
 refine ap (aQ rfl rfl) rfl rfl ?_
 refine ap (am rfl) rfl rfl ?_
 refine aq rfl rfl rfl rfl ?_
 refine aq rfl rfl rfl rfl ?_
 refine ap (aM rfl rfl) rfl rfl ?_
 refine ap (am rfl) rfl rfl ?_
 refine aq rfl rfl rfl rfl ?_
 refine aq rfl rfl rfl rfl ?_
 refine aq rfl rfl rfl rfl ?_
 refine aq rfl rfl rfl rfl ?_
 refine aq rfl rfl rfl rfl ?_
 refine ap (aM rfl rfl) rfl rfl ?_
 refine ap (am rfl) rfl rfl ?_
 refine aq rfl rfl rfl rfl ?_
 refine aq rfl rfl rfl rfl ?_
 refine aq rfl rfl rfl rfl ?_
 refine ap (aM rfl rfl) rfl rfl ?_
 refine ae ?_
 refine ao ?_
 refine aI rfl ?_
 refine ar ?_
 refine ah ?_
 refine ap (ai rfl) rfl rfl ?_
 refine ae ?_
 refine ao ?_
 refine aV ?_
 refine aB ?_
 refine aY (ts := [6]) rfl rfl rfl (fun w hw => ?_)
 exact ⟨(), rfl, hw.base, (hw.weak (List.nil_sublist _) (fun s hs => hs)).toNews⟩
 refine ap (ct rfl) rfl rfl ?_
 refine ap (am rfl) rfl rfl ?_
 refine aq rfl rfl rfl rfl ?_
 refine aq rfl rfl rfl rfl ?_
 refine aq rfl rfl rfl rfl ?_
 refine ap (aM rfl rfl) rfl rfl ?_
 refine ap (am rfl) rfl rfl ?_
 refine aq rfl rfl rfl rfl ?_
 refine aq rfl rfl rfl rfl ?_
 refine ap (aM rfl rfl) rfl rfl ?_
 refine ap (am rfl) rfl rfl ?_
 refine aq rfl rfl rfl rfl ?_
 refine aq rfl rfl rfl rfl ?_
 refine aq rfl rfl rfl rfl ?_
 refine aq rfl rfl rfl rfl ?_
 refine aq rfl rfl rfl rfl ?_
 refine ap (aM rfl rfl) rfl rfl ?_
 refine ap (am rfl) rfl rfl ?_
 refine aq rfl rfl rfl rfl ?_
 refine aq rfl rfl rfl rfl ?_
 refine aq rfl rfl rfl rfl ?_
 refine ap (aM rfl rfl) rfl rfl ?_
 refine ae ?_
 refine ao ?_
 refine aI rfl ?_
 refine ar ?_
 refine ah ?_
 refine ap (ai rfl) rfl rfl ?_
 refine ae ?_
 refine ao ?_
 refine aV ?_
 refine aB ?_
 refine aY (ts := [6]) rfl rfl rfl (fun w hw => ?_)
 exact ⟨(), rfl, hw.base, (hw.weak (List.nil_sublist _) (fun s hs => hs)).toNews⟩
end Go.Proofs.Ytnpdgmoeoidppaa
