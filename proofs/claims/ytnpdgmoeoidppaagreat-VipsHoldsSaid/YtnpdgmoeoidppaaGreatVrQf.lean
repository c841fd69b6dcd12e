import Derived.Test.YtnpdgmoeoidppaaGreatVqQf
/- ranges: the document places, who is free -/
namespace Go.Proofs.YtnpdgmoeoidppaaGreat
open Go.RowKit Go.Shelf
set_option linter.unusedVariables false
set_option linter.unusedSimpArgs false

theorem ent_162 : Enters Tryz.prog 162 := enters_of Tryz.func162 (by kernel_rfl) rfl
theorem ent_93 : Enters Tryz.prog 93 := enters_of Tryz.func93 (by kernel_rfl) rfl
theorem ent_94 : Enters Tryz.prog 94 := enters_of Tryz.func94 (by kernel_rfl) rfl

theorem bJ {x : Cx} {C : World → Prop} {l : Fr} {L S : List Ch} {Q : Exit → Act → World → Prop} {ops : Array Oper} {fuel m : Nat} {listed : Array Bool} {i d : Nat} {op : Op} {ty : TypeId} {pos : String} {af : Array Edge} {gd : Option (Nat × Bool)} {listed' : Array Bool} (hi : ops[i]? = some ⟨some d, op, ty, pos, af, gd⟩) (hw : ∀ a, Kn x.N x.ds l a → Region.wanted ⟨some d, op, ty, pos, af, gd⟩ (yielded ops a.tmps) = false)
    (hC : ∀ w, Hp x.ok0 x.w0 L S w → C w) (hN : Nat.blt d x.N = true) (hpk : PkOk Q)
    (hs : (Region.noSelect ops && Region.free .any ops listed i && (Region.ready .any ops listed).contains i && g7 ops m i && Nat.blt i m && dL m listed && iA ops listed) = true) (hl : listed.setIfInBounds i true = listed')
    (k : WU x C m ops fuel listed' ((d, undef) :: l) L S Q) : WU x C m ops (fuel + 1) listed l L S Q := fun a w ha hh => by
  simp only [Bool.and_eq_true] at hs
  obtain ⟨⟨⟨⟨⟨⟨h1, h2⟩, h3⟩, h4⟩, h5⟩, h6⟩, h7⟩ := hs
  exact iw hi (Region.noSelect_spec h1) (fun c a w h => hpk c a w _ _ h) h4 (Nat.le_of_ble_eq_true h5) fuel listed a w h6 (closed_of h7) (Region.free_spec hi h2) (by simpa using h3) (.inr ⟨hw a ha, rfl⟩) (hC w hh) (by rw [hl]; exact k _ w (ha.put (Nat.le_of_ble_eq_true hN) undef) hh)

theorem at_four {r : Rg} {i : Int} (hr : RgOk r) (hz : cC r = 0) (h0 : 0 ≤ i) (hi : i < bD r) (h6 : r.base.six = false) : r.base.lo + i < 4294967296 := by
  obtain ⟨_, h2, _⟩ := at_ok hr hz h0 hi
  simp only [bT, Bool.and_eq_true, decide_eq_true_eq] at h2
  have h3 := h2.2.1
  unfold bX at h3
  split at h3
  · exact absurd h3 (by decide)
  · rename_i q; have q2 : ¬ (r.base.hi ≠ 0 ∨ 4294967296 ≤ r.base.lo + i) := fun x => q ⟨h6, x⟩; omega
theorem size_pos {r : Rg} {i : Int} (h0 : 0 ≤ i) (hi : i < bD r) : cC r = 0 := by
  refine Decidable.not_not.1 fun h => ?_
  rw [bD, if_pos h] at hi; omega
theorem un_end {res : List Rg} {a : Ad} {k : Nat} {fr : Bool} (hI : k ≤ res.length ∧ fr = !((res.take k).any fun x => bT x a)) (h : ¬ (k : Int) < res.length ∨ fr = false) : dz res a = fr := by
  obtain ⟨h1, h2⟩ := hI
  rw [dz, h2]
  rcases h with h | h
  · rw [List.take_of_length_le (by omega)]
  · rw [h2, Bool.not_eq_false'] at h
    rw [h]
    obtain ⟨x, hx, hx2⟩ := List.any_eq_true.1 h
    rw [List.any_eq_true.2 ⟨x, List.mem_of_mem_take hx, hx2⟩]
theorem un_step {res : List Rg} {a : Ad} {k : Nat} {fr : Bool} (hk : k < res.length) (h : fr = !((res.take k).any fun x => bT x a)) (hf : fr = true) : (!bT (res.getD k rg0) a) = !((res.take (k + 1)).any fun x => bT x a) := by
  rw [bV res rg0 k hk, List.any_append]
  rw [h, Bool.not_eq_true'] at hf
  rw [hf]; simp
theorem gE {rg : Rg} {res : List Rg} {i : Nat} (hi : i < bD rg) : (((dn rg).take (i + 1)).filter (dz res)).length = (((dn rg).take i).filter (dz res)).length + if dz res (cp rg.base i).1 = true then 1 else 0 := by
  rw [bV (dn rg) ad0 i (by rw [ee]; exact hi), gP hi, free_snoc]

theorem c_ref04_Add (a : Ad) (d : Int) (hc : bX a = 0) (h0 : 0 ≤ a.lo ∧ 0 ≤ d) (h1 : a.lo + d ≤ 18446744073709551615) (h2 : a.six = false → a.lo + d < 4294967296) : RC Tryz.prog 162 #[.agg (dW a).toArray, .int .u64 d] [] (α := Unit) (fun _ => .tuple #[.agg (dW ⟨a.six, a.hi, a.lo + d⟩).toArray, .bool true]) (fun _ => []) := by
 refine bp (args := [.agg (dW a).toArray, .int .u64 d]) 44 Tryz.func162 rfl rfl rfl (fun w0 => ?_)
 refine ap ?_
 refine ab ?_
 refine bI rfl rfl rfl (fun b1 => ?_)
 refine br aO rfl rfl (fun b2 => ?_)
 refine aq (ai rfl) rfl rfl ?_
 refine ae ?_
 refine ak ?_
 refine ap ?_
 refine ap ?_
 refine ab ?_
 refine aq (aM 1 aO rfl rfl rfl rfl) rfl rfl ?_
 refine aV rfl ent_79 (fd a h0.1) rfl ?_
 refine aq (ct rfl rfl) rfl rfl ?_
 refine ey (t := 10) rfl (fun h => h hc) ?_
 refine ae ?_
 refine ak ?_
 refine ay rfl ?_
 refine aH ?_
 refine ak ?_
 refine ap ?_
 refine ab ?_
 refine aq (aM 1 aO rfl rfl rfl rfl) rfl rfl ?_
 refine br aO rfl rfl (fun b3 => ?_)
 refine aW aO rfl rfl rfl .z rfl rfl rfl rfl ?_
 refine ae ?_
 refine ak ?_
 refine ap ?_
 refine ab ?_
 refine aq (aF cz rfl) rfl rfl ?_
 refine aq (aQ 2 cG rfl rfl rfl) rfl rfl ?_
 refine aq (aj rfl) rfl rfl ?_
 refine aq (y_add rfl rfl) rfl rfl ?_
 refine bZ (t := 16) (.int .u64 (a.lo + d)) rfl (by rw [da (by omega) (by omega)]) ?_
 refine aq (aF cz rfl) rfl rfl ?_
 refine aW cG rfl rfl rfl .z rfl rfl rfl rfl ?_
 refine ae ?_
 refine ak ?_
 refine ap ?_
 refine ab ?_
 refine aq (aF cz rfl) rfl rfl ?_
 refine aq (aQ 0 cG rfl rfl rfl) rfl rfl ?_
 refine aq (aF cz rfl) rfl rfl ?_
 refine aq (aQ 2 cG rfl rfl rfl) rfl rfl ?_
 refine aq (bP rfl rfl) rfl rfl ?_
 refine ey (t := 22) rfl (by omega) ?_
 refine aq (ai rfl) rfl rfl ?_
 refine ae ?_
 refine ak ?_
 refine ap ?_
 refine ap ?_
 refine ab ?_
 refine aq (aF dh rfl) rfl rfl ?_
 refine aq (aQ 2 gG rfl rfl rfl) rfl rfl ?_
 refine bi (t := 24) rfl (fun h6_1 => ?_) (fun h6_1 => ?_)
 refine aq (bF rfl) rfl rfl ?_
 refine ae ?_
 refine ak ?_
 refine ay rfl ?_
 refine aH ?_
 refine ak ?_
 refine ap ?_
 refine ap ?_
 refine ab ?_
 refine aq (aj rfl) rfl rfl ?_
 refine ae ?_
 refine ak ?_
 refine ay rfl ?_
 refine aH ?_
 refine ak ?_
 refine ap ?_
 refine ab ?_
 refine aq (aM 0 aO rfl rfl rfl rfl) rfl rfl ?_
 refine aW aO rfl rfl rfl (.s (.z)) rfl rfl rfl rfl ?_
 refine aq (ai rfl) rfl rfl ?_
 refine ae ?_
 refine ak ?_
 refine aJ ?_
 refine dT (rs := [.cell 4 29, .tmp 5]) rfl (bG 1 aO rfl rfl rfl rfl (cQ rfl bW)) rfl (fun w hw => ?_)
 exact ⟨(), rfl, hw.base, (hw.weak (List.nil_sublist _) (fun s hs => hs)).toNews⟩
 refine aq (bF rfl) rfl rfl ?_
 refine ae ?_
 refine ak ?_
 refine aA rfl ?_
 refine ap ?_
 refine ap ?_
 refine ab ?_
 refine aq (aj rfl) rfl rfl ?_
 refine aq (aj rfl) rfl rfl ?_
 refine aw rfl rfl ?_
 refine aq (aF cz rfl) rfl rfl ?_
 refine aw rfl rfl ?_
 refine aq (aQ 0 cG rfl rfl rfl) rfl rfl ?_
 refine aw rfl rfl ?_
 refine aq (gr rfl rfl) rfl rfl ?_
 refine ey (t := 30) rfl (by have := h2 h6_1; omega) ?_
 refine aq (aL rfl rfl) rfl rfl ?_
 refine ae ?_
 refine ak ?_
 refine ay rfl ?_
 refine aH ?_
 refine ak ?_
 refine ap ?_
 refine ab ?_
 refine aq (aM 0 aO rfl rfl rfl rfl) rfl rfl ?_
 refine aW aO rfl rfl rfl (.s (.z)) rfl rfl rfl rfl ?_
 refine aq (ai rfl) rfl rfl ?_
 refine ae ?_
 refine ak ?_
 refine aJ ?_
 refine aC ?_
 refine dT (rs := [.cell 4 29, .tmp 5]) rfl (bG 1 aO rfl rfl rfl rfl (cQ rfl bW)) rfl (fun w hw => ?_)
 exact ⟨(), rfl, hw.base, (hw.weak (List.nil_sublist _) (fun s hs => hs)).toNews⟩

theorem c_ref05At (r : Rg) (i : Int) (hr : RgOk r) (h0 : 0 ≤ i) (hi : i < bD r) : RC Tryz.prog 93 #[.agg (ea r).toArray, .int .i64 i] [] (α := Unit) (fun _ => .tuple #[.agg (dW (cp r.base i).1).toArray, .bool true]) (fun _ => []) := by
 refine bp (args := [.agg (ea r).toArray, .int .i64 i]) 22 Tryz.func93 rfl rfl rfl (fun w0 => ?_)
 have hz := size_pos h0 hi
 have hat := at_ok hr hz h0 hi
 have hsz := d6 r
 have hck : bX r.base = 0 := (fP hz).1
 refine ap ?_
 refine ab ?_
 refine bI rfl rfl rfl (fun b1 => ?_)
 refine br aO rfl rfl (fun b2 => ?_)
 refine aq (ai rfl) rfl rfl ?_
 refine ae ?_
 refine ak ?_
 refine ap ?_
 refine ap ?_
 refine ab ?_
 refine aq (aj rfl) rfl rfl ?_
 refine aq (bP rfl rfl) rfl rfl ?_
 refine ey (t := 7) rfl (by omega) ?_
 refine aq (aj rfl) rfl rfl ?_
 refine aw rfl rfl ?_
 refine aq (aj rfl) rfl rfl ?_
 refine aw rfl rfl ?_
 refine aq (aM 1 ck rfl rfl rfl rfl) rfl rfl ?_
 refine aw rfl rfl ?_
 refine aV rfl ent_92 (eZ r hr.1) rfl ?_
 refine aw rfl rfl ?_
 refine aq (gr rfl rfl) rfl rfl ?_
 refine ey (t := 12) rfl (by omega) ?_
 refine aq (aL rfl rfl) rfl rfl ?_
 refine ae ?_
 refine ak ?_
 refine ay rfl ?_
 refine aH ?_
 refine ak ?_
 refine ap ?_
 refine ab ?_
 refine aq (aF cy rfl) rfl rfl ?_
 refine aq (aM 1 aO rfl rfl rfl rfl) rfl rfl ?_
 refine aq (aj rfl) rfl rfl ?_
 refine aq (dF Tryz.underlying3 Tryz.underlying27 rfl (da (by omega) (by omega))) rfl rfl ?_
 refine bh rfl ent_162 rfl (c_ref04_Add r.base i hck ⟨hr.1.2.2.1, h0⟩ hat.2.2 (at_four hr hz h0 hi)) (fun w hw => a8) ?_
 refine aq (aI rfl rfl) rfl rfl ?_
 refine aq (aI rfl rfl) rfl rfl ?_
 refine aW aO rfl rfl rfl .z rfl rfl rfl rfl ?_
 refine aq (ai rfl) rfl rfl ?_
 refine ae ?_
 refine ak ?_
 refine aJ ?_
 refine dT (rs := [.cell 4 29, .tmp 5]) rfl (bG 0 aO rfl rfl rfl rfl (cQ rfl bW)) rfl (fun w hw => ?_)
 exact ⟨(), by rw [hat.1]; rfl, hw.base, (hw.weak (List.nil_sublist _) (fun s hs => hs)).toNews⟩

set_option maxRecDepth 100000 in
theorem c_ref05Free (rg : Rg) (res : List Rg) (A : Option Addr) (c : Nat) (hr : RgOk rg) (hrs : ∀ x ∈ res, RgOk x) (hl : res.length ≤ 1000000000000) : RC Tryz.prog 33 #[.agg (ea rg).toArray, .slice A res.length c] [Ch.rd A 4 ea res] (α := Unit) (fun _ => .int .i64 (du rg res)) (fun _ => []) := by
 refine bp (args := [.agg (ea rg).toArray, .slice A res.length c]) 43 Tryz.func33 rfl rfl rfl (fun w0 => ?_)
 refine ap ?_
 refine ab ?_
 refine bI rfl rfl rfl (fun b1 => ?_)
 refine aq (ai rfl) rfl rfl ?_
 refine ae ?_
 refine ak ?_
 refine ap ?_
 refine ab ?_
 refine aq (ai rfl) rfl rfl ?_
 refine ae ?_
 refine ak ?_
 refine ap ?_
 refine ap ?_
 refine ab ?_
 refine aq (ai rfl) rfl rfl ?_
 refine ae ?_
 refine ak ?_
 refine aR ?_
 refine bY (σ := Nat) [5, 6, 7, 8, 9, 10, 11, 12, 13, 14, 15, 16, 17, 18, 19, 20, 21, 22, 23, 24, 25, 26, 27, 28, 29, 30, 31, 32, 33, 34, 35, 36, 37, 38, 39, 40, 41] (fun i => i ≤ bD rg) (fun i => bD rg - i) (fun i => [(6, .int .i64 i), (5, .int .i64 (((((dn rg).take i).filter (dz res)).length : Nat) : Int))]) (0) ?_ ⟨rfl, rfl, trivial⟩ (fun i hI => ?_)
 exact Nat.zero_le _
 refine ap ?_
 refine ap ?_
 refine ab ?_
 refine aq (aj rfl) rfl rfl ?_
 refine aq (aM 0 ck rfl rfl rfl rfl) rfl rfl ?_
 refine aV rfl ent_92 (eZ rg hr.1) rfl ?_
 refine aq (bP rfl rfl) rfl rfl ?_
 refine aG (t := 14) rfl (fun h3_3 => ?_) (fun h3_3 => ?_)
 have hi : i < bD rg := by omega
 have hsz := d6 rg
 have hz := size_pos (r := rg) (i := i) (by omega) (by omega)
 have hao : f7 (cp rg.base i).1 := by have := at_adok (i := i) hr hz (by omega) (by omega); rwa [at_add (by omega) (by omega)] at this
 have hIo := hI
 have hfl : (((dn rg).take i).filter (dz res)).length ≤ i := Nat.le_trans (List.length_filter_le _ _) (by rw [List.length_take]; omega)
 refine ae ?_
 refine ak ?_
 refine aA rfl ?_
 refine aH ?_
 refine ak ?_
 refine ap ?_
 refine aR ?_
 refine ap ?_
 refine ab ?_
 refine aq (aM 0 ck rfl rfl rfl rfl) rfl rfl ?_
 refine aq (aj rfl) rfl rfl ?_
 refine bh rfl ent_93 rfl (c_ref05At rg i hr (by omega) (by omega)) (fun w hw => a8) ?_
 refine aq (aj rfl) rfl rfl ?_
 refine aq (aI rfl rfl) rfl rfl ?_
 refine aq (aI rfl rfl) rfl rfl ?_
 refine br aO rfl rfl (fun b2 => ?_)
 refine aW aO rfl rfl rfl .z rfl rfl rfl rfl ?_
 refine aq (ai rfl) rfl rfl ?_
 refine ae ?_
 refine ak ?_
 refine ap ?_
 refine ab ?_
 refine aq (ai rfl) rfl rfl ?_
 refine ae ?_
 refine ak ?_
 refine ap ?_
 refine ap ?_
 refine ab ?_
 refine aq (ai rfl) rfl rfl ?_
 refine ae ?_
 refine ak ?_
 refine aR ?_
 refine bY (σ := Nat × Bool) [9, 10, 23, 24, 25, 26, 27, 28, 29, 30, 31, 32, 33, 34, 35, 36, 37, 38] (fun z => z.1 ≤ res.length ∧ z.2 = !((res.take z.1).any fun x => bT x (cp rg.base i).1)) (fun z => res.length - z.1) (fun z => [(10, .int .i64 z.1), (9, .bool z.2)]) ((0, true)) ?_ ⟨rfl, rfl, trivial⟩ (fun z hI => ?_)
 exact ⟨Nat.zero_le _, rfl⟩
 obtain ⟨k, fr⟩ := z
 dsimp only at hI ⊢
 refine ap ?_
 refine ap ?_
 refine ab ?_
 refine aq (aj rfl) rfl rfl ?_
 refine aq (aj rfl) rfl rfl ?_
 refine aq (bK Tryz.underlying65 rfl) rfl rfl ?_
 refine aq (bP rfl rfl) rfl rfl ?_
 refine aG (t := 26) rfl (fun h8_3 => ?_) (fun h8_3 => ?_)
 refine aq (aj rfl) rfl rfl ?_
 refine aw rfl rfl ?_
 refine aq (aj rfl) rfl rfl ?_
 refine bi (t := 28) rfl (fun h8_5 => ?_) (fun h8_5 => ?_)
 have hk : k < res.length := by omega
 refine aq (aS rfl rfl) rfl rfl ?_
 refine ae ?_
 refine ak ?_
 refine aA rfl ?_
 refine aH ?_
 refine ak ?_
 refine ap ?_
 refine aR ?_
 refine c5 8 rfl mixed ?_
 refine ax (i := 0) rfl ah (aj rfl) av av rfl (ao (aa (au (ao (aa (ao (aa (au (ao (aa ar)))))))))) (by kernel_rfl) rfl ?_
 refine ax (i := 1) rfl ah (aj rfl) av av rfl (ao (aa (au (ao (aa (ao (aa (au (ao (aa ar)))))))))) (by kernel_rfl) rfl ?_
 refine ax (i := 2) rfl ah (bq  Tryz.underlying65 ck rfl rfl (bH 0 rfl) rfl (by omega)) av av rfl (ao (aa (au (ao (aa (ao (aa (au (ao (aa ar)))))))))) (by kernel_rfl) rfl ?_
 refine ax (i := 3) rfl ah (fN gn rg0 ck rfl (bH 0 rfl) (by omega) rfl rfl rfl) av av rfl (ao (aa (au (ao (aa (ao (aa (au (ao (aa ar)))))))))) (by kernel_rfl) rfl ?_
 refine ax (i := 4) rfl ah (aM 0 aO rfl rfl rfl rfl) av av rfl (ao (aa (au (ao (aa (ao (aa (au (ao (aa ar)))))))))) (by kernel_rfl) rfl ?_
 refine cu (i := 5) rfl rfl rfl (bf rfl ent_94) (by kernel_rfl) rfl ?_
 refine aV rfl ent_94 (g6 (res.getD k rg0) (cp rg.base i).1 (hrs _ (bc hk)).1 hao) rfl ?_
 refine ae ?_
 refine bz av ?_
 refine fy (t := 37) rfl (fun h10_5 => ?_) (fun h10_5 => ?_)
 refine ax (i := 6) rfl ah (bF rfl) av av rfl (ao (aa (au (ao (aa (ao (aa (au (ao (aa ar)))))))))) (by kernel_rfl) rfl ?_
 refine ax (i := 7) rfl ah (ai rfl) av av rfl (ao (aa (au (ao (aa (ao (aa (au (ao (aa ar)))))))))) (by kernel_rfl) rfl ?_
 refine cm (by kernel_rfl) ?_
 refine bo ?_
 refine ak ?_
 refine ab ?_
 refine aq (aj rfl) rfl rfl ?_
 refine aq (bd rfl rfl (by omega) (by omega)) rfl rfl ?_
 refine aq (ai rfl) rfl rfl ?_
 refine ae ?_
 refine bj ((k + 1, !bT (res.getD k rg0) (cp rg.base i).1)) ?_ ?_ ⟨rfl, lk rfl (congrArg (fun b => Value.bool (!b)) h10_5.symm), trivial⟩ (by repeat (first | exact trivial | refine ⟨rfl, ?_⟩)) av
 exact ⟨by show k + 1 ≤ _; omega, un_step hk hI.2 h8_5⟩
 show res.length - (k + 1) < res.length - k
 omega
 refine ax (i := 6) rfl ah (bF rfl) av av rfl (ao (aa (au (ao (aa (ao (aa (au (ao (aa ar)))))))))) (by kernel_rfl) rfl ?_
 refine ax (i := 7) rfl ah (ai rfl) av av rfl (ao (aa (au (ao (aa (ao (aa (au (ao (aa ar)))))))))) (by kernel_rfl) rfl ?_
 refine cm (by kernel_rfl) ?_
 refine bo ?_
 refine ak ?_
 refine ab ?_
 refine aq (aj rfl) rfl rfl ?_
 refine aq (bd rfl rfl (by omega) (by omega)) rfl rfl ?_
 refine aq (ai rfl) rfl rfl ?_
 refine ae ?_
 refine bj ((k + 1, !bT (res.getD k rg0) (cp rg.base i).1)) ?_ ?_ ⟨rfl, lk rfl (congrArg (fun b => Value.bool (!b)) h10_5.symm), trivial⟩ (by repeat (first | exact trivial | refine ⟨rfl, ?_⟩)) av
 exact ⟨by show k + 1 ≤ _; omega, un_step hk hI.2 h8_5⟩
 show res.length - (k + 1) < res.length - k
 omega
 refine aq (aS rfl rfl) rfl rfl ?_
 refine ae ?_
 refine ak ?_
 refine ay rfl ?_
 refine bE ?_
 refine aZ ?_
 refine aY ?_
 refine a7 ?_
 refine ak ?_
 refine ap ?_
 have hun := un_end hI (by first | exact .inl h8_3 | exact .inr h8_5)
 refine ab ?_
 refine aq (aj rfl) rfl rfl ?_
 refine bi (t := 39) rfl (fun h11_0 => ?_) (fun h11_0 => ?_)
 refine ae ?_
 refine ak ?_
 refine aA rfl ?_
 refine ab ?_
 refine aq (aj rfl) rfl rfl ?_
 refine aq (bd rfl rfl (by omega) (by omega)) rfl rfl ?_
 refine aq (ai rfl) rfl rfl ?_
 refine ae ?_
 refine bo ?_
 refine ak ?_
 refine ab ?_
 refine aq (aj rfl) rfl rfl ?_
 refine aq (bd rfl rfl (by omega) (by omega)) rfl rfl ?_
 refine aq (ai rfl) rfl rfl ?_
 refine ae ?_
 refine bj (i + 1) ?_ ?_ ⟨rfl, lk rfl (congrArg (Value.int .i64) (by rw [gE hi, hun, h11_0] <;> rfl)), trivial⟩ (by repeat (first | exact trivial | refine ⟨rfl, ?_⟩)) (cr 1)
 show i + 1 ≤ _
 omega
 omega
 refine ae ?_
 refine ak ?_
 refine ay rfl ?_
 refine aH ?_
 refine bo ?_
 refine ak ?_
 refine ab ?_
 refine aq (aj rfl) rfl rfl ?_
 refine aq (bd rfl rfl (by omega) (by omega)) rfl rfl ?_
 refine aq (ai rfl) rfl rfl ?_
 refine ae ?_
 refine bj (i + 1) ?_ ?_ ⟨rfl, lk rfl (congrArg (Value.int .i64) (by rw [gE hi, hun, h11_0] <;> rfl)), trivial⟩ (by repeat (first | exact trivial | refine ⟨rfl, ?_⟩)) (cr 1)
 show i + 1 ≤ _
 omega
 omega
 refine aq (aj rfl) rfl rfl ?_
 refine aK rfl rfl rfl rfl ?_
 refine aq (aL rfl rfl) rfl rfl ?_
 refine ae ?_
 refine ak ?_
 refine ay rfl ?_
 refine bE ?_
 refine aZ ?_
 refine aY ?_
 refine a7 ?_
 refine ak ?_
 refine ap ?_
 have hun := un_end hI (by first | exact .inl h8_3 | exact .inr h8_5)
 refine ab ?_
 refine aq (aj rfl) rfl rfl ?_
 refine bi (t := 39) rfl (fun h11_0 => ?_) (fun h11_0 => ?_)
 refine ae ?_
 refine ak ?_
 refine aA rfl ?_
 refine ab ?_
 refine aq (aj rfl) rfl rfl ?_
 refine aq (bd rfl rfl (by omega) (by omega)) rfl rfl ?_
 refine aq (ai rfl) rfl rfl ?_
 refine ae ?_
 refine bo ?_
 refine ak ?_
 refine ab ?_
 refine aq (aj rfl) rfl rfl ?_
 refine aq (bd rfl rfl (by omega) (by omega)) rfl rfl ?_
 refine aq (ai rfl) rfl rfl ?_
 refine ae ?_
 refine bj (i + 1) ?_ ?_ ⟨rfl, lk rfl (congrArg (Value.int .i64) (by rw [gE hi, hun, h11_0] <;> rfl)), trivial⟩ (by repeat (first | exact trivial | refine ⟨rfl, ?_⟩)) (cr 1)
 show i + 1 ≤ _
 omega
 omega
 refine ae ?_
 refine ak ?_
 refine ay rfl ?_
 refine aH ?_
 refine bo ?_
 refine ak ?_
 refine ab ?_
 refine aq (aj rfl) rfl rfl ?_
 refine aq (bd rfl rfl (by omega) (by omega)) rfl rfl ?_
 refine aq (ai rfl) rfl rfl ?_
 refine ae ?_
 refine bj (i + 1) ?_ ?_ ⟨rfl, lk rfl (congrArg (Value.int .i64) (by rw [gE hi, hun, h11_0] <;> rfl)), trivial⟩ (by repeat (first | exact trivial | refine ⟨rfl, ?_⟩)) (cr 1)
 show i + 1 ≤ _
 omega
 omega
 refine ae ?_
 refine ak ?_
 refine ay rfl ?_
 refine bE ?_
 refine aZ ?_
 refine aY ?_
 refine a7 ?_
 refine ak ?_
 refine ap ?_
 refine ab ?_
 refine aq (aj rfl) rfl rfl ?_
 refine aq (ai rfl) rfl rfl ?_
 refine ae ?_
 refine ak ?_
 refine aJ ?_
 refine aN (ts := [4]) rfl rfl rfl (fun w hw => ?_)
 have hE : du rg res = (((dn rg).take i).filter (dz res)).length := by rw [List.take_of_length_le (by rw [ee]; omega)]; rfl
 exact ⟨(), by rw [hE]; rfl, hw.base, (hw.weak (List.nil_sublist _) (fun s hs => hs)).toNews⟩

set_option maxRecDepth 100000 in
theorem c_ref05Index (r : Rg) (a : Ad) (h : RgOk r) (h2 : f7 a) : RC Tryz.prog 105 #[.agg (ea r).toArray, .agg (dW a).toArray] [] (α := Int) (fun o => .tuple #[.int .i64 o, .bool (de r a)]) (fun o => []) := by
 refine bp (args := [.agg (ea r).toArray, .agg (dW a).toArray]) 37 Tryz.func105 rfl rfl rfl (fun w0 => ?_)
 have hsz := d6 r
 refine ap ?_
 refine ab ?_
 refine bI rfl rfl rfl (fun b1 => ?_)
 refine bI rfl rfl rfl (fun b2 => ?_)
 refine aq (ai rfl) rfl rfl ?_
 refine aq (ai rfl) rfl rfl ?_
 refine ae ?_
 refine ak ?_
 refine ap ?_
 refine ap ?_
 refine c5 24 rfl mixed ?_
 refine ax (i := 0) rfl ah (aM 1 ck rfl rfl rfl rfl) av av rfl (aa (aa ar)) (by kernel_rfl) rfl ?_
 refine ax (i := 1) rfl ah (aM 0 aO rfl rfl rfl rfl) av av rfl (aa (aa ar)) (by kernel_rfl) rfl ?_
 refine cu (i := 2) rfl rfl rfl (bf rfl ent_94) (by kernel_rfl) rfl ?_
 refine aV rfl ent_94 (g6 r a h.1 h2) rfl ?_
 refine ae ?_
 refine bz av ?_
 refine fy (t := 8) rfl (fun h1_2 => ?_) (fun h1_2 => ?_)
 refine ax (i := 3) rfl ah (bF rfl) av av rfl (aa (aa ar)) (by kernel_rfl) rfl ?_
 refine ax (i := 4) rfl ah (aj rfl) av av rfl (aa (aa ar)) (by kernel_rfl) rfl ?_
 refine ax (i := 5) rfl (aB rfl rfl) (aF dG rfl) av av rfl (aa (aa ar)) (by kernel_rfl) rfl ?_
 refine ax (i := 6) rfl (aB rfl rfl) (aQ 0 cG rfl rfl rfl) av av rfl (aa (aa ar)) (by kernel_rfl) rfl ?_
 refine ax (i := 7) rfl (aB rfl rfl) (aF cy rfl) av av rfl (aa (aa ar)) (by kernel_rfl) rfl ?_
 refine ax (i := 8) rfl (aB rfl rfl) (aF dG rfl) av av rfl (aa (aa ar)) (by kernel_rfl) rfl ?_
 refine ax (i := 9) rfl (aB rfl rfl) (aQ 1 cG rfl rfl rfl) av av rfl (aa (aa ar)) (by kernel_rfl) rfl ?_
 refine ax (i := 10) rfl (aB rfl rfl) (ct rfl rfl) av av rfl (aa (aa ar)) (by kernel_rfl) rfl ?_
 refine wu_splitp (t := 16) rfl (fun h1_10 => ?_) (fun h1_10 => ?_)
 refine ax (i := 11) rfl ah (aL rfl rfl) av av rfl (aa (aa ar)) (by kernel_rfl) rfl ?_
 refine ax (i := 12) rfl ah (aj rfl) av av rfl (aa (aa ar)) (by kernel_rfl) rfl ?_
 refine bJ (i := 13) rfl (az rfl rfl rfl) av rfl (aa (aa ar)) (by kernel_rfl) rfl ?_
 refine bJ (i := 14) rfl (az rfl rfl rfl) av rfl (aa (aa ar)) (by kernel_rfl) rfl ?_
 refine bJ (i := 15) rfl (az rfl rfl rfl) av rfl (aa (aa ar)) (by kernel_rfl) rfl ?_
 refine bJ (i := 16) rfl (az rfl rfl rfl) av rfl (aa (aa ar)) (by kernel_rfl) rfl ?_
 refine bJ (i := 17) rfl (az rfl rfl rfl) av rfl (aa (aa ar)) (by kernel_rfl) rfl ?_
 refine bJ (i := 18) rfl (az rfl rfl rfl) av rfl (aa (aa ar)) (by kernel_rfl) rfl ?_
 refine bJ (i := 19) rfl (az rfl rfl rfl) av rfl (aa (aa ar)) (by kernel_rfl) rfl ?_
 refine bJ (i := 20) rfl (az rfl rfl rfl) av rfl (aa (aa ar)) (by kernel_rfl) rfl ?_
 refine bJ (i := 21) rfl (az rfl rfl rfl) av rfl (aa (aa ar)) (by kernel_rfl) rfl ?_
 refine bJ (i := 22) rfl (az rfl rfl rfl) av rfl (aa (aa ar)) (by kernel_rfl) rfl ?_
 refine ax (i := 23) rfl ah (aS rfl rfl) av av rfl (aa (aa ar)) (by kernel_rfl) rfl ?_
 refine cm (by kernel_rfl) ?_
 refine ak ?_
 refine aA rfl ?_
 refine ap ?_
 refine ab ?_
 refine aq (ai rfl) rfl rfl ?_
 refine aq (ai rfl) rfl rfl ?_
 refine ae ?_
 refine ak ?_
 refine aJ ?_
 refine aC ?_
 refine aN (ts := [4, 5]) rfl rfl rfl (fun w hw => ?_)
 focus first
   | (have hE : de r a = false := by rw [de, h1_2]; rfl
      exact ⟨0, by rw [hE]; rfl, hw.base, (hw.weak (List.nil_sublist _) (fun s hs => hs)).toNews⟩)
   | (have hE : de r a = false := by rw [de, decide_eq_false h1_10, Bool.false_and, Bool.and_false]
      exact ⟨0, by rw [hE]; rfl, hw.base, (hw.weak (List.nil_sublist _) (fun s hs => hs)).toNews⟩)
   | (have hE : de r a = false := by rw [de, decide_eq_false (p := IntKind.u64.wrap (a.lo - r.base.lo) < bD r) (by omega), Bool.and_false, Bool.and_false]
      exact ⟨0, by rw [hE]; rfl, hw.base, (hw.weak (List.nil_sublist _) (fun s hs => hs)).toNews⟩)
   | (have hE : de r a = true := by rw [de, h1_2, decide_eq_true (Decidable.not_not.1 h1_10), decide_eq_true (p := IntKind.u64.wrap (a.lo - r.base.lo) < bD r) (by omega)]; rfl
      exact ⟨_, by rw [hE]; rfl, hw.base, (hw.weak (List.nil_sublist _) (fun s hs => hs)).toNews⟩)
   | (trace_state; fail)
 refine ax (i := 11) rfl ah (aL rfl rfl) av av rfl (aa (aa ar)) (by kernel_rfl) rfl ?_
 refine ax (i := 12) rfl ah (aj rfl) av av rfl (aa (aa ar)) (by kernel_rfl) rfl ?_
 refine ax (i := 13) rfl (aB rfl rfl) (aF cz rfl) av av rfl (aa (aa ar)) (by kernel_rfl) rfl ?_
 refine ax (i := 14) rfl (aB rfl rfl) (aQ 0 cG rfl rfl rfl) av av rfl (aa (aa ar)) (by kernel_rfl) rfl ?_
 refine ax (i := 15) rfl (aB rfl rfl) (aF cy rfl) av av rfl (aa (aa ar)) (by kernel_rfl) rfl ?_
 refine ax (i := 16) rfl (aB rfl rfl) (aF cz rfl) av av rfl (aa (aa ar)) (by kernel_rfl) rfl ?_
 refine ax (i := 17) rfl (aB rfl rfl) (aQ 1 cG rfl rfl rfl) av av rfl (aa (aa ar)) (by kernel_rfl) rfl ?_
 refine ax (i := 18) rfl (aB rfl rfl) (y_sub rfl rfl) av av rfl (aa (aa ar)) (by kernel_rfl) rfl ?_
 refine ax (i := 19) rfl (aB rfl rfl) (aM 1 ck rfl rfl rfl rfl) av av rfl (aa (aa ar)) (by kernel_rfl) rfl ?_
 refine cu (i := 20) rfl rfl rfl (bf rfl ent_92) (by kernel_rfl) rfl ?_
 refine aw rfl rfl ?_
 refine aV rfl ent_92 (eZ r h.1) rfl ?_
 refine ae ?_
 refine bz av ?_
 refine ax (i := 21) rfl (aB rfl rfl) (dF Tryz.underlying3 Tryz.underlying27 rfl (da (by omega) (by omega))) av av rfl (aa (aa ar)) (by kernel_rfl) rfl ?_
 refine ax (i := 22) rfl (aB rfl rfl) (gr rfl rfl) av av rfl (aa (aa ar)) (by kernel_rfl) rfl ?_
 refine wu_splitp (t := 28) rfl (fun h1_22 => ?_) (fun h1_22 => ?_)
 refine ax (i := 23) rfl ah (aL rfl rfl) av av rfl (aa (aa ar)) (by kernel_rfl) rfl ?_
 refine cm (by kernel_rfl) ?_
 refine ak ?_
 refine aA rfl ?_
 refine ap ?_
 refine ab ?_
 refine aq (ai rfl) rfl rfl ?_
 refine aq (ai rfl) rfl rfl ?_
 refine ae ?_
 refine ak ?_
 refine aJ ?_
 refine aC ?_
 refine aN (ts := [4, 5]) rfl rfl rfl (fun w hw => ?_)
 focus first
   | (have hE : de r a = false := by rw [de, h1_2]; rfl
      exact ⟨0, by rw [hE]; rfl, hw.base, (hw.weak (List.nil_sublist _) (fun s hs => hs)).toNews⟩)
   | (have hE : de r a = false := by rw [de, decide_eq_false h1_10, Bool.false_and, Bool.and_false]
      exact ⟨0, by rw [hE]; rfl, hw.base, (hw.weak (List.nil_sublist _) (fun s hs => hs)).toNews⟩)
   | (have hE : de r a = false := by rw [de, decide_eq_false (p := IntKind.u64.wrap (a.lo - r.base.lo) < bD r) (by omega), Bool.and_false, Bool.and_false]
      exact ⟨0, by rw [hE]; rfl, hw.base, (hw.weak (List.nil_sublist _) (fun s hs => hs)).toNews⟩)
   | (have hE : de r a = true := by rw [de, h1_2, decide_eq_true (Decidable.not_not.1 h1_10), decide_eq_true (p := IntKind.u64.wrap (a.lo - r.base.lo) < bD r) (by omega)]; rfl
      exact ⟨_, by rw [hE]; rfl, hw.base, (hw.weak (List.nil_sublist _) (fun s hs => hs)).toNews⟩)
   | (trace_state; fail)
 refine ax (i := 23) rfl ah (aL rfl rfl) av av rfl (aa (aa ar)) (by kernel_rfl) rfl ?_
 refine cm (by kernel_rfl) ?_
 refine ak ?_
 refine ay rfl ?_
 refine aH ?_
 refine ak ?_
 refine ap ?_
 refine ab ?_
 refine aq (aF cz rfl) rfl rfl ?_
 refine aq (aQ 0 cG rfl rfl rfl) rfl rfl ?_
 refine aq (aF cy rfl) rfl rfl ?_
 refine aq (aF cz rfl) rfl rfl ?_
 refine aq (aQ 1 cG rfl rfl rfl) rfl rfl ?_
 refine aq (y_sub rfl rfl) rfl rfl ?_
 refine aq (gj Tryz.underlying27 Tryz.underlying3 rfl) rfl rfl ?_
 refine aq (ai rfl) rfl rfl ?_
 refine aq (ai rfl) rfl rfl ?_
 refine ae ?_
 refine ak ?_
 refine aJ ?_
 refine aN (ts := [4, 5]) rfl rfl rfl (fun w hw => ?_)
 focus first
   | (have hE : de r a = false := by rw [de, h1_2]; rfl
      exact ⟨0, by rw [hE]; rfl, hw.base, (hw.weak (List.nil_sublist _) (fun s hs => hs)).toNews⟩)
   | (have hE : de r a = false := by rw [de, decide_eq_false h1_10, Bool.false_and, Bool.and_false]
      exact ⟨0, by rw [hE]; rfl, hw.base, (hw.weak (List.nil_sublist _) (fun s hs => hs)).toNews⟩)
   | (have hE : de r a = false := by rw [de, decide_eq_false (p := IntKind.u64.wrap (a.lo - r.base.lo) < bD r) (by omega), Bool.and_false, Bool.and_false]
      exact ⟨0, by rw [hE]; rfl, hw.base, (hw.weak (List.nil_sublist _) (fun s hs => hs)).toNews⟩)
   | (have hE : de r a = true := by rw [de, h1_2, decide_eq_true (Decidable.not_not.1 h1_10), decide_eq_true (p := IntKind.u64.wrap (a.lo - r.base.lo) < bD r) (by omega)]; rfl
      exact ⟨_, by rw [hE]; rfl, hw.base, (hw.weak (List.nil_sublist _) (fun s hs => hs)).toNews⟩)
   | (trace_state; fail)
 refine ax (i := 3) rfl ah (bF rfl) av av rfl (aa (aa ar)) (by kernel_rfl) rfl ?_
 refine ax (i := 4) rfl ah (aj rfl) av av rfl (aa (aa ar)) (by kernel_rfl) rfl ?_
 refine bJ (i := 5) rfl (az rfl rfl rfl) av rfl (aa (aa ar)) (by kernel_rfl) rfl ?_
 refine bJ (i := 6) rfl (az rfl rfl rfl) av rfl (aa (aa ar)) (by kernel_rfl) rfl ?_
 refine bJ (i := 7) rfl (az rfl rfl rfl) av rfl (aa (aa ar)) (by kernel_rfl) rfl ?_
 refine bJ (i := 8) rfl (az rfl rfl rfl) av rfl (aa (aa ar)) (by kernel_rfl) rfl ?_
 refine bJ (i := 9) rfl (az rfl rfl rfl) av rfl (aa (aa ar)) (by kernel_rfl) rfl ?_
 refine bJ (i := 10) rfl (az rfl rfl rfl) av rfl (aa (aa ar)) (by kernel_rfl) rfl ?_
 refine ax (i := 11) rfl ah (aS rfl rfl) av av rfl (aa (aa ar)) (by kernel_rfl) rfl ?_
 refine ax (i := 12) rfl ah (aj rfl) av av rfl (aa (aa ar)) (by kernel_rfl) rfl ?_
 refine bJ (i := 13) rfl (az rfl rfl rfl) av rfl (aa (aa ar)) (by kernel_rfl) rfl ?_
 refine bJ (i := 14) rfl (az rfl rfl rfl) av rfl (aa (aa ar)) (by kernel_rfl) rfl ?_
 refine bJ (i := 15) rfl (az rfl rfl rfl) av rfl (aa (aa ar)) (by kernel_rfl) rfl ?_
 refine bJ (i := 16) rfl (az rfl rfl rfl) av rfl (aa (aa ar)) (by kernel_rfl) rfl ?_
 refine bJ (i := 17) rfl (az rfl rfl rfl) av rfl (aa (aa ar)) (by kernel_rfl) rfl ?_
 refine bJ (i := 18) rfl (az rfl rfl rfl) av rfl (aa (aa ar)) (by kernel_rfl) rfl ?_
 refine bJ (i := 19) rfl (az rfl rfl rfl) av rfl (aa (aa ar)) (by kernel_rfl) rfl ?_
 refine bJ (i := 20) rfl (az rfl rfl rfl) av rfl (aa (aa ar)) (by kernel_rfl) rfl ?_
 refine bJ (i := 21) rfl (az rfl rfl rfl) av rfl (aa (aa ar)) (by kernel_rfl) rfl ?_
 refine bJ (i := 22) rfl (az rfl rfl rfl) av rfl (aa (aa ar)) (by kernel_rfl) rfl ?_
 refine ax (i := 23) rfl ah (aS rfl rfl) av av rfl (aa (aa ar)) (by kernel_rfl) rfl ?_
 refine cm (by kernel_rfl) ?_
 refine ak ?_
 refine aA rfl ?_
 refine ap ?_
 refine ab ?_
 refine aq (ai rfl) rfl rfl ?_
 refine aq (ai rfl) rfl rfl ?_
 refine ae ?_
 refine ak ?_
 refine aJ ?_
 refine aC ?_
 refine aN (ts := [4, 5]) rfl rfl rfl (fun w hw => ?_)
 focus first
   | (have hE : de r a = false := by rw [de, h1_2]; rfl
      exact ⟨0, by rw [hE]; rfl, hw.base, (hw.weak (List.nil_sublist _) (fun s hs => hs)).toNews⟩)
   | (have hE : de r a = false := by rw [de, decide_eq_false h1_10, Bool.false_and, Bool.and_false]
      exact ⟨0, by rw [hE]; rfl, hw.base, (hw.weak (List.nil_sublist _) (fun s hs => hs)).toNews⟩)
   | (have hE : de r a = false := by rw [de, decide_eq_false (p := IntKind.u64.wrap (a.lo - r.base.lo) < bD r) (by omega), Bool.and_false, Bool.and_false]
      exact ⟨0, by rw [hE]; rfl, hw.base, (hw.weak (List.nil_sublist _) (fun s hs => hs)).toNews⟩)
   | (have hE : de r a = true := by rw [de, h1_2, decide_eq_true (Decidable.not_not.1 h1_10), decide_eq_true (p := IntKind.u64.wrap (a.lo - r.base.lo) < bD r) (by omega)]; rfl
      exact ⟨_, by rw [hE]; rfl, hw.base, (hw.weak (List.nil_sublist _) (fun s hs => hs)).toNews⟩)
   | (trace_state; fail)
end Go.Proofs.YtnpdgmoeoidppaaGreat

/- law 14: a push twice -/
namespace Go.Proofs.YtnpdgmoeoidppaaGreat
open Go.RowKit Go.Shelf
set_option linter.unusedVariables false
set_option linter.unusedSimpArgs false

theorem bu_85_2 (x0 : Option Addr) (x1 : Nat) (x2 : Nat) : Tryz.prog.built 85 [(2, .slice x0 x1 x2)] = some [.int .i64 0, .string ⟨#[]⟩, .slice x0 x1 x2, .bool false, .int .u64 0, .int .u64 0].toArray := by kernel_rfl
theorem ent_30 : Enters Tryz.prog 30 := enters_of Tryz.func30 (by kernel_rfl) rfl
theorem ent_32 : Enters Tryz.prog 32 := enters_of Tryz.func32 (by kernel_rfl) rfl
theorem ent_36 : Enters Tryz.prog 36 := enters_of Tryz.func36 (by kernel_rfl) rfl
theorem ent_41 : Enters Tryz.prog 41 := enters_of Tryz.func41 (by kernel_rfl) rfl
theorem ent_42 : Enters Tryz.prog 42 := enters_of Tryz.func42 (by kernel_rfl) rfl

end Go.Proofs.YtnpdgmoeoidppaaGreat
