import Derived.Test.YtnpdgmoeoidppaaGreatVvQt
import Derived.Test.YtnpdgmoeoidppaaGreatLxQt
/- vips: the document pool gives and drops -/
namespace Go.Proofs.YtnpdgmoeoidppaaGreat
open Go.RowKit Go.Shelf
set_option linter.unusedVariables false
set_option linter.unusedSimpArgs false

theorem ent_181 : Enters Tryz.prog 181 := enters_of Tryz.func181 (by kernel_rfl) rfl
theorem ent_183 : Enters Tryz.prog 183 := enters_of Tryz.func183 (by kernel_rfl) rfl
theorem ent_184 : Enters Tryz.prog 184 := enters_of Tryz.func184 (by kernel_rfl) rfl

theorem w_drawUC {x : Cx} {l : Fr} {L S : List Ch} {Q : Exit → Act → World → Prop} {id : Nat} {ol : List Oper} {L' : List Ch} (m : Nat) (hs : L'.Sublist L) (hro : x.ro = none) (hm : x.P.follows .mixedOrders = true) (h : WU x (Hp x.ok0 x.w0 L' S) m ol.toArray ol.length (Array.replicate ol.length false) l L S Q) : W x l L S (.region id ol.toArray true) Q := fun a w ha hw => by
  rw [hro]
  refine (wpIn_wide (n := 0)).2 (wp_region_any hm (iq (C := Hp x.ok0 x.w0 L' S) (m := m) _ _ _ _ ?_))
  have := h a { w with drawn := w.drawn + 1 } ha hw.drew
  simpa using this
theorem eQ (hm : Hm) (p : aV × Hd) : cj (hm ++ [p]) = cj hm ++ [p.2] := by simp [cj]
theorem atH_place {n : aV} {size k : Nat} (hk : k < size) (hs : size ≤ 65536) : 0 ≤ dO n size ∧ dO n size < size ∧ (dO n size + k).tmod size = gj n size k ∧ 0 ≤ gj n size k ∧ gj n size k < size := by
  have h1 := atH_rng (n := n) (slots := size) (by omega) 0
  rw [atH_zero (by omega)] at h1
  have h2 := atH_rng (n := n) (slots := size) (by omega) k
  refine ⟨h1.1, h1.2, ?_, h2.1, h2.2⟩
  rw [gj, if_neg (by omega), Int.tmod_eq_emod_of_nonneg (by omega)]
section
variable {v : Vp} {hm : Hm} {n : aV} (hroom : v.room = dv v.rg v.res) (h : HInv v hm) (hn : bl n = true) (hl : cA hm (a6 n) = none)
include hn hl
theorem fX (hno : ∀ q : Nat, q < bj v.rg → cX v.res (bw hm) (atR v.rg (gj n (bj v.rg) q)).1 = false) : bK v hm (bw hm) n = ((ad0, 10), hm, bw hm) := by
  by_cases h4 : v.room - hm.length = 0
  · exact cS hn (by rw [hl]; rfl) h4
  · have hp : bO v (bw hm) n = none := by
      rw [bO, List.find?_eq_none]
      intro e he
      obtain ⟨k, hk, rfl⟩ := List.mem_map.1 he
      rw [List.mem_range] at hk
      rw [hno k (by omega)]; decide
    rw [cp hn (by rw [hl]; rfl) h4 hp]; rfl
include hroom h
theorem jc {k : Nat} (hk : k < bj v.rg) (hno : ∀ q : Nat, q < k → cX v.res (bw hm) (atR v.rg (gj n (bj v.rg) q)).1 = false) (hf : cX v.res (bw hm) (atR v.rg (gj n (bj v.rg) k)).1 = true) :
    bK v hm (bw hm) n = (((atR v.rg (gj n (bj v.rg) k)).1, 0), hm ++ [(a6 n, ⟨n, (atR v.rg (gj n (bj v.rg) k)).1⟩)], bw (hm ++ [(a6 n, ⟨n, (atR v.rg (gj n (bj v.rg) k)).1⟩)])) := by
  have hsz := eD v.rg
  obtain ⟨-, -, -, p1, p2⟩ := atH_place (n := n) hk hsz
  have h4 : ¬ v.room - hm.length = 0 := fun e => by
    simp only [cX, Bool.and_eq_true, Bool.not_eq_true'] at hf
    have := full_has h (by have := h.len; omega) (List.mem_filter.2 ⟨each_mem.2 ⟨_, p1, p2, rfl⟩, hf.2⟩)
    rw [← fg] at this
    rw [lkp_mem.2 this] at hf; cases hf.1
  have hp : bO v (bw hm) n = some (gj n (bj v.rg) k) := by
    rw [bO, List.find?_eq_some_iff_append]
    refine ⟨hf, (List.range k).map (gj n (bj v.rg)), (List.range' (k + 1) (bj v.rg - (k + 1))).map (gj n (bj v.rg)), ?_, fun e he => ?_⟩
    · have e : List.range (bj v.rg) = List.range k ++ k :: List.range' (k + 1) (bj v.rg - (k + 1)) := by
        rw [List.range_eq_range', List.range_eq_range']
        have h1 : List.range' 0 (bj v.rg) = List.range' 0 k ++ List.range' k (bj v.rg - k) := by
          have := @List.range'_append_1 0 k (bj v.rg - k)
          rw [Nat.zero_add] at this
          rw [this]; congr 1; omega
        rw [h1, show bj v.rg - k = (bj v.rg - (k + 1)) + 1 by omega, List.range'_succ]
      have e2 : ((bj v.rg : Nat) : Int).toNat = bj v.rg := Int.toNat_natCast _
      rw [dZ, e2, e, List.map_append, List.map_cons]
    · obtain ⟨q, hq, rfl⟩ := List.mem_map.1 he
      rw [List.mem_range] at hq
      rw [hno q hq]; rfl
  have h3 := (iV (v := v) h.inv n).1
  have e := cp (am := bw hm) hn (by rw [hl]; rfl) h4 hp
  rw [e] at h3 ⊢
  exact Prod.ext rfl (Prod.ext rfl h3)
end
theorem filt_idx : ∀ {hm : Hm} {k : Nat}, (hm.map fun p => p.1).Nodup → k < hm.length → hm.filter (fun p => decide (p.1 ≠ (hm.getD k ([], ct)).1)) = hm.take k ++ hm.drop (k + 1)
  | [], _, _, h => by cases h
  | p :: t, 0, hn, _ => by
    rw [List.map_cons, List.nodup_cons] at hn
    show List.filter (fun q => decide (q.1 ≠ p.1)) (p :: t) = t
    rw [List.filter_cons, if_neg (by simp), List.filter_eq_self]
    exact fun q hq => decide_eq_true fun e => hn.1 (List.mem_map.2 ⟨q, hq, e⟩)
  | p :: t, k + 1, hn, hk => by
    rw [List.map_cons, List.nodup_cons] at hn
    have hk2 : k < t.length := by simpa using hk
    have hm9 : t.getD k ([], ct) ∈ t := bX hk2
    show List.filter (fun q => decide (q.1 ≠ (t.getD k ([], ct)).1)) (p :: t) = p :: (t.take k ++ t.drop (k + 1))
    rw [List.filter_cons, if_pos (by rw [decide_eq_true_eq]; exact fun e => hn.1 (List.mem_map.2 ⟨_, hm9, e.symm⟩)), filt_idx hn.2 hk2]
theorem drop_at {hm : Hm} (h : PInv hm) {n : aV} (hn : bl n = true) {k : Nat} (hk : k < (cj hm).length) (he : (hm.getD k ([], ct)).1 = a6 n) : ∃ hm3, di hm (bw hm) n = (0, hm3, bw hm3) ∧ cj hm3 = (cj hm).take k ++ (cj hm).drop (k + 1) := by
  have hk2 : k < hm.length := by rw [cK] at hk; exact hk
  refine ⟨_, drop_ok h hn (by rw [← he]; exact List.mem_map.2 ⟨_, bX hk2, rfl⟩), ?_⟩
  rw [← he, filt_idx h.keys hk2, cj, cj, List.map_append, List.map_take, List.map_drop]
theorem gV {hm : Hm} {n : aV} (hn : bl n = true) (hl : cA hm (a6 n) = none) : di hm (bw hm) n = (5, hm, bw hm) := by
  rw [di, if_neg (by rw [hn]; decide), if_pos (by rw [hl]; rfl)]
theorem i3 {hm : Hm} {n : aV} (hn : bl n = false) : di hm (bw hm) n = (2, hm, bw hm) := if_pos hn

set_option maxRecDepth 100000 in
set_option maxHeartbeats 4000000 in
theorem c_oGive (o : Rp) (Ah : Option Addr) (ch : Nat) (hm : Hm) (n : aV) (hi0 : HInv (vR o.rg o.res) hm) (hn : n.length ≤ 1000000000) (hml : hm.length ≤ 1000000) (hr : RgOk o.rg) (hz : cw o.rg = 0) (hrs : ∀ x ∈ o.res, RgOk x) (hrl : o.res.length ≤ 4398046510976) (a : Ad) (e : Int) (hm2 : Hm) (hG : bK (vR o.rg o.res) hm (bw hm) n = ((a, e), hm2, bw hm2)) : UC Tryz.prog 114 #[.pointer (some ⟨o.b, 0, none⟩), .string (ba n)] [Ch.rd o.A 4 dR o.res] (rpCh o Ah ch (cj hm)) (α := Option Addr × Nat) (fun p => .tuple #[.agg (dN a).toArray, .int .i64 e]) (fun p => rpCh o p.1 p.2 (cj hm2)) := by
 refine ea (args := [.pointer (some ⟨o.b, 0, none⟩), .string (ba n)]) 74 Tryz.func114 rfl rfl rfl (fun w0 => ?_)
 refine cH (fun w h => h.untwo) ?_
 have hhl := cK hm
 have hsz := eD o.rg
 refine ao ?_
 refine ab ?_
 refine bz aN rfl rfl (fun b1 => ?_)
 refine ap (ai rfl) rfl rfl ?_
 refine ae ?_
 refine aj ?_
 refine ao ?_
 refine ao ?_
 refine ab ?_
 refine ap (ak rfl) rfl rfl ?_
 refine aS rfl ent_181 (c_ohost _) rfl ?_
 refine bk (t := 13) rfl (fun h1_1 => ?_) (fun h1_1 => ?_)
 refine ap (bJ rfl) rfl rfl ?_
 refine ae ?_
 refine aj ?_
 refine au rfl ?_
 refine aH ?_
 refine aj ?_
 refine ao ?_
 refine ab ?_
 refine ap (ak rfl) rfl rfl ?_
 refine ap (ak rfl) rfl rfl ?_
 refine gK rfl ent_182 rfl (c_ofind o Ah ch hm n hi0.inv hn hml) (fun w hw => (aQ (dL 1 rfl hw) (aQ (eF 2 rfl hw) bf))) (fun ⟨i9, hfi⟩ => ?_)
 refine bV (t := 18) (.int .i64 i9) rfl rfl ?_
 refine ap (ai rfl) rfl rfl ?_
 refine ae ?_
 refine aj ?_
 refine ao ?_
 refine ao ?_
 refine ab ?_
 refine ap (ak rfl) rfl rfl ?_
 refine ap (gF rfl rfl) rfl rfl ?_
 refine aC (t := 20) rfl (fun h4_1 => ?_) (fun h4_1 => ?_)
 obtain ⟨k9, rfl, hk9, hok9, -, hlk9⟩ := hfi.resolve_left (fun h => by omega)
 refine ae ?_
 refine aj ?_
 refine ay rfl ?_
 refine ao ?_
 refine ab ?_
 refine ap (ak rfl) rfl rfl ?_
 refine ap (aR rfl) rfl rfl ?_
 refine ap (aB bU rfl) rfl rfl ?_
 refine ap (aM 1 dl rfl rfl rfl) rfl rfl ?_
 refine ap (ak rfl) rfl rfl ?_
 refine ap (bP  Tryz.underlying25 bh rfl rfl (ek 2 rfl) rfl (by omega)) rfl rfl ?_
 refine ap (aB dU rfl) rfl rfl ?_
 refine ap (iw 1 bI ct aN rfl (ek 2 rfl) (by omega) rfl rfl rfl) rfl rfl ?_
 refine aT aN rfl rfl rfl .z rfl rfl rfl rfl ?_
 refine ap (ai rfl) rfl rfl ?_
 refine ae ?_
 refine aj ?_
 refine aF ?_
 refine aA ?_
 refine dp (rs := [.cell 4 29, .tmp 5]) rfl (bA 0 aN rfl rfl rfl rfl (cC rfl bR)) rfl (fun w hw => ?_)
 obtain ⟨h1, h2, h3⟩ := (hw.weak (.cons _ (.cons_cons _ (.cons_cons _ .slnil))) (fun s hs => hs)).f1.f1.two.uc
 focus first
   | (have hq := hG.symm.trans (cM (v := vR o.rg o.res) (hm := hm) (am := bw hm) h1_1)
      simp only [Prod.mk.injEq] at hq
      obtain ⟨⟨rfl, rfl⟩, rfl, -⟩ := hq
      exact ⟨(Ah, ch), rfl, h1, h2, h3⟩)
   | (have hq := hG.symm.trans (cF (v := vR o.rg o.res) (am := bw hm) hok9 (by rw [hlk9]; rfl))
      rw [hlk9] at hq
      simp only [Prod.mk.injEq] at hq
      obtain ⟨⟨rfl, rfl⟩, rfl, -⟩ := hq
      exact ⟨(Ah, ch), rfl, h1, h2, h3⟩)
   | (have hq := hG.symm.trans (fX (v := vR o.rg o.res) hokn hlk (fun q hq => hI.2 q (by show q < k; have : q < bj o.rg := hq; omega)))
      simp only [Prod.mk.injEq] at hq
      obtain ⟨⟨rfl, rfl⟩, rfl, -⟩ := hq
      exact ⟨(Ah, ch), rfl, h1, h2, h3⟩)
   | (have hq := hG.symm.trans (jc (v := vR o.rg o.res) rfl hi0 hokn hlk hk hI.2 h12_2)
      simp only [Prod.mk.injEq] at hq
      obtain ⟨⟨rfl, rfl⟩, rfl, -⟩ := hq
      exact ⟨(Ah, ch), rfl, h1, by rw [eQ]; exact h2, by rw [eQ]; exact h3⟩)
   | (trace_state; fail)
 obtain ⟨rfl, -, hlk0⟩ := hfi.resolve_right (fun ⟨k, h, _⟩ => by omega)
 have hokn : bl n = true := h1_1
 have hlk := hlk0 hokn
 refine ae ?_
 refine aj ?_
 refine au rfl ?_
 refine aH ?_
 refine aj ?_
 refine ao ?_
 refine ab ?_
 refine ap (ak rfl) rfl rfl ?_
 refine ap (aR rfl) rfl rfl ?_
 refine ap (aB fS rfl) rfl rfl ?_
 refine ap (aB d7 rfl) rfl rfl ?_
 refine ap (aK 1 cm rfl rfl rfl rfl) rfl rfl ?_
 refine aS rfl ent_92 (fK o.rg hr.1) rfl ?_
 refine ap (ai rfl) rfl rfl ?_
 refine ae ?_
 refine aj ?_
 refine ao ?_
 refine ab ?_
 refine ap (ak rfl) rfl rfl ?_
 refine ap (ak rfl) rfl rfl ?_
 refine aS rfl ent_183 (c_ref13_Slot n (bj o.rg) hn (by omega) (by omega)) rfl ?_
 refine ap (ai rfl) rfl rfl ?_
 refine ae ?_
 refine aj ?_
 refine ao ?_
 refine ao ?_
 refine ab ?_
 refine ap (ai rfl) rfl rfl ?_
 refine ae ?_
 refine aj ?_
 refine aP ?_
 refine b8 (σ := Nat) [5, 9, 10, 11, 38, 39, 40, 41, 42, 43, 44, 45, 46, 47, 48, 49, 50, 51, 52, 53, 54, 55, 56, 57, 58, 59, 60, 61, 62, 63, 64, 65, 66, 67, 68, 69, 70, 71, 72] (fun k => k ≤ bj o.rg ∧ ∀ q : Nat, q < k → cX o.res (bw hm) (atR o.rg (gj n (bj o.rg) q)).1 = false) (fun k => bj o.rg - k) (fun k => [(9, .int .i64 k)]) (0) ?_ ⟨rfl, trivial⟩ (fun k hI => ?_)
 exact ⟨Nat.zero_le _, nofun⟩
 refine ao ?_
 refine ao ?_
 refine ab ?_
 refine ap (ak rfl) rfl rfl ?_
 refine ap (ak rfl) rfl rfl ?_
 refine ap (bF rfl rfl) rfl rfl ?_
 refine aC (t := 40) rfl (fun h9_2 => ?_) (fun h9_2 => ?_)
 have hk : k < bj o.rg := by omega
 obtain ⟨p1, p2, p3, p4, p5⟩ := atH_place (n := n) hk hsz
 have hpa := at_adok hr hz p4 p5
 have hpe := at_add p4 p5
 refine ae ?_
 refine aj ?_
 refine ay rfl ?_
 refine aH ?_
 refine aj ?_
 refine ao ?_
 refine aP ?_
 refine ao ?_
 refine de 17 rfl mixed ?_
 apply wu_k0 #[true, true, true, true, true, true, true, true, true, true, false, false, false, false, false, false, false] 7
 intro K11_0
 refine ax (i := 0) rfl ah (ak rfl) aw aw rfl (aa (aq (aa (av (aq (aa ar)))))) (by kernel_rfl) rfl ?_
 refine ax (i := 1) rfl ah (aR rfl) aw aw rfl (aa (aq (aa (av (aq (aa ar)))))) (by kernel_rfl) rfl ?_
 refine ax (i := 2) rfl ah (aB fS rfl) aw aw rfl (aa (aq (aa (av (aq (aa ar)))))) (by kernel_rfl) rfl ?_
 refine ax (i := 3) rfl ah (aB d7 rfl) aw aw rfl (aa (aq (aa (av (aq (aa ar)))))) (by kernel_rfl) rfl ?_
 refine ax (i := 4) rfl ah (aK 1 cm rfl rfl rfl rfl) aw aw rfl (aa (aq (aa (av (aq (aa ar)))))) (by kernel_rfl) rfl ?_
 refine ax (i := 5) rfl ah (ak rfl) aw aw rfl (aa (aq (aa (av (aq (aa ar)))))) (by kernel_rfl) rfl ?_
 refine ax (i := 6) rfl ah (ak rfl) aw aw rfl (aa (aq (aa (av (aq (aa ar)))))) (by kernel_rfl) rfl ?_
 refine ax (i := 7) rfl ah (bg rfl rfl (by omega) (by omega)) aw aw rfl (aa (aq (aa (av (aq (aa ar)))))) (by kernel_rfl) rfl ?_
 refine ax (i := 8) rfl ah (ak rfl) aw aw rfl (aa (aq (aa (av (aq (aa ar)))))) (by kernel_rfl) rfl ?_
 refine ax (i := 9) rfl ah (y_rem rfl rfl (by omega)) aw aw rfl (aa (aq (aa (av (aq (aa ar)))))) (by kernel_rfl) rfl ?_
 refine f0 (t := 53) (.int .i64 (gj n (bj o.rg) k)) rfl (congrArg (Value.int .i64) p3) ?_
 refine wu_lst (listed' := #[true, true, true, true, true, true, true, true, true, true, false, false, false, false, false, false, false]) (by kernel_rfl) ?_
 exact K11_0 _ iB
 refine eX (js := [10, 14]) (by kernel_rfl) rfl ?_
 refine bZ (i := 10) rfl rfl rfl (br rfl ent_93) rfl ?_ ?_
 refine bv rfl ent_93 rfl (c_ref05At o.rg (gj n (bj o.rg) k) hr p4 p5) (fun w hw => bf) ?_
 refine ae ?_
 refine bc aw ?_
 refine f0 (t := 54) (.tuple #[.agg (dN (atR o.rg (gj n (bj o.rg) k)).1).toArray, .bool true]) rfl (by rw [hpe]) ?_
 refine ax (i := 11) rfl ah (ak rfl) aw aw rfl (aa (aq (aa (av (aq (aa ar)))))) (by kernel_rfl) rfl ?_
 refine ax (i := 12) rfl ah (aI rfl rfl) aw aw rfl (aa (aq (aa (av (aq (aa ar)))))) (by kernel_rfl) rfl ?_
 refine ax (i := 13) rfl ah (aI rfl rfl) aw aw rfl (aa (aq (aa (av (aq (aa ar)))))) (by kernel_rfl) rfl ?_
 refine bD (i := 14) rfl rfl rfl (fun _ _ _ => a7 (by kernel_rfl)) (by kernel_rfl) rfl ?_
 refine bz aN rfl rfl (fun b3 => ?_)
 refine ae ?_
 refine bc (bS 1) ?_
 refine bD (i := 15) rfl rfl rfl (fun _ _ _ => a7 (by kernel_rfl)) (by kernel_rfl) rfl ?_
 refine aT aN rfl rfl rfl .z rfl rfl rfl rfl ?_
 refine ae ?_
 refine bc (bS 1) ?_
 refine ax (i := 16) rfl ah (ai rfl) (bS 1) aw rfl (aa (aq (aa (av (aq (aa ar)))))) (by kernel_rfl) rfl ?_
 refine bQ (by kernel_rfl) ?_
 refine aj ?_
 refine ao ?_
 refine ab ?_
 refine ap (ak rfl) rfl rfl ?_
 refine ap (aK 0 aN rfl rfl rfl rfl) rfl rfl ?_
 refine bv rfl ent_184 rfl (c_ofree o Ah ch hm (atR o.rg (gj n (bj o.rg) k)).1 hrs hrl hpa hml) (fun w hw => (aQ (dL 2 rfl hw) (aQ (eF 3 rfl hw) (aQ (cI 0 rfl hw) bf)))) ?_
 refine bk (t := 59) rfl (fun h12_2 => ?_) (fun h12_2 => ?_)
 refine ae ?_
 refine aj ?_
 refine ay rfl ?_
 refine ao ?_
 refine w_drawUC 12 (.cons_cons _ (.cons_cons _ (.cons_cons _ (.cons _ .slnil)))) rfl mixed ?_
 refine ax (i := 0) rfl ah (ak rfl) (fun w h => h.weak (.cons_cons _ (.cons_cons _ (.cons_cons _ (.cons _ .slnil)))) (fun s hs => hs)) aw rfl (aa (aq (aa (av (aq (aa ar)))))) (by kernel_rfl) rfl ?_
 refine ax (i := 1) rfl ah (ak rfl) (fun w h => h.weak (.cons_cons _ (.cons_cons _ (.cons_cons _ (.cons _ .slnil)))) (fun s hs => hs)) aw rfl (aa (aq (aa (av (aq (aa ar)))))) (by kernel_rfl) rfl ?_
 refine ax (i := 2) rfl ah (aR rfl) (fun w h => h.weak (.cons_cons _ (.cons_cons _ (.cons_cons _ (.cons _ .slnil)))) (fun s hs => hs)) aw rfl (aa (aq (aa (av (aq (aa ar)))))) (by kernel_rfl) rfl ?_
 refine ax (i := 3) rfl ah (aB bU rfl) (fun w h => h.weak (.cons_cons _ (.cons_cons _ (.cons_cons _ (.cons _ .slnil)))) (fun s hs => hs)) aw rfl (aa (aq (aa (av (aq (aa ar)))))) (by kernel_rfl) rfl ?_
 refine ax (i := 4) rfl ah (aM 2 dl rfl rfl rfl) (fun w h => h.weak (.cons_cons _ (.cons_cons _ (.cons_cons _ (.cons _ .slnil)))) (fun s hs => hs)) aw rfl (aa (aq (aa (av (aq (aa ar)))))) (by kernel_rfl) rfl ?_
 refine ax (i := 5) rfl ah (ak rfl) (fun w h => h.weak (.cons_cons _ (.cons_cons _ (.cons_cons _ (.cons _ .slnil)))) (fun s hs => hs)) aw rfl (aa (aq (aa (av (aq (aa ar)))))) (by kernel_rfl) rfl ?_
 refine ax (i := 6) rfl ah (aK 0 aN rfl rfl rfl rfl) (fun w h => h.weak (.cons_cons _ (.cons_cons _ (.cons_cons _ (.cons _ .slnil)))) (fun s hs => hs)) aw rfl (aa (aq (aa (av (aq (aa ar)))))) (by kernel_rfl) rfl ?_
 refine ax (i := 7) rfl ah (bN rfl (gS _ _ _ _)) (fun w h => h.weak (.cons_cons _ (.cons_cons _ (.cons_cons _ (.cons _ .slnil)))) (fun s hs => hs)) aw rfl (aa (aq (aa (av (aq (aa ar)))))) (by kernel_rfl) rfl ?_
 refine bD (i := 8) rfl rfl rfl (fun _ _ _ => a7 (by kernel_rfl)) (by kernel_rfl) rfl ?_
 refine du (vs := [_]) ([(⟨n, (atR o.rg (gj n (bj o.rg) k)).1⟩ : Hd)] : List (Hd)) bI Tryz.underlying25 bh rfl rfl rfl rfl rfl rfl (fun As4 => ?_)
 refine ae ?_
 refine bc (fun w h => h.weak (.cons _ (.cons_cons _ (.cons_cons _ (.cons_cons _ (.cons _ .slnil))))) (fun s hs => hs)) ?_
 refine bD (i := 9) rfl rfl rfl (fun _ _ _ => a7 (by kernel_rfl)) (by kernel_rfl) rfl ?_
 refine cg (enc := d4) (sz := 4) [(⟨n, (atR o.rg (gj n (bj o.rg) k)).1⟩ : Hd)] Tryz.underlying25 bh rfl rfl rfl (fun A c => (.s (.s (.s (.s (.z)))))) (eZ 0 Tryz.underlying25 rfl) (by simp only [List.length_cons, List.length_nil, Nat.zero_add]; omega) (by simp only [List.length_cons, List.length_nil, Nat.zero_add]; omega) rfl (fun A4 c4 => ?_)
 refine ae ?_
 refine bc (fun w h => h.weak (.cons _ (.cons_cons _ (.cons_cons _ (.cons_cons _ (.cons _ .slnil))))) (fun s hs => hs)) ?_
 refine ax (i := 10) rfl ah (aR rfl) (fun w h => h.weak (.cons _ (.cons_cons _ (.cons_cons _ (.cons_cons _ (.cons _ .slnil))))) (fun s hs => hs)) aw rfl (aa (aq (aa (av (aq (aa ar)))))) (by kernel_rfl) rfl ?_
 refine ax (i := 11) rfl ah (aB bU rfl) (fun w h => h.weak (.cons _ (.cons_cons _ (.cons_cons _ (.cons_cons _ (.cons _ .slnil))))) (fun s hs => hs)) aw rfl (aa (aq (aa (av (aq (aa ar)))))) (by kernel_rfl) rfl ?_
 refine bD (i := 12) rfl rfl rfl (fun _ _ _ => a7 (by kernel_rfl)) (by kernel_rfl) rfl ?_
 refine aT dl rfl rfl rfl (.s (.s (.s (.z)))) rfl rfl rfl rfl ?_
 refine ae ?_
 refine eu_tail rfl ?_
 refine bQ (by kernel_rfl) ?_
 refine aj ?_
 refine ao ?_
 refine ab ?_
 refine ap (aK 1 aN rfl rfl rfl rfl) rfl rfl ?_
 refine aT aN rfl rfl rfl (.s (.s (.z))) rfl rfl rfl rfl ?_
 refine ap (ai rfl) rfl rfl ?_
 refine ae ?_
 refine aj ?_
 refine aF ?_
 refine aL ?_
 refine aA ?_
 refine bu ?_
 refine aL ?_
 refine aA ?_
 refine dp (rs := [.cell 4 29, .tmp 5]) rfl (bA 2 aN rfl rfl rfl rfl (cC rfl bR)) rfl (fun w hw => ?_)
 obtain ⟨h1, h2, h3⟩ := (hw.weak (.cons _ (.cons _ (.cons _ (.cons_cons _ (.cons_cons _ .slnil))))) (fun s hs => hs)).f1.f1.two.uc
 focus first
   | (have hq := hG.symm.trans (cM (v := vR o.rg o.res) (hm := hm) (am := bw hm) h1_1)
      simp only [Prod.mk.injEq] at hq
      obtain ⟨⟨rfl, rfl⟩, rfl, -⟩ := hq
      exact ⟨(A4, c4), rfl, h1, h2, h3⟩)
   | (have hq := hG.symm.trans (cF (v := vR o.rg o.res) (am := bw hm) hok9 (by rw [hlk9]; rfl))
      rw [hlk9] at hq
      simp only [Prod.mk.injEq] at hq
      obtain ⟨⟨rfl, rfl⟩, rfl, -⟩ := hq
      exact ⟨(A4, c4), rfl, h1, h2, h3⟩)
   | (have hq := hG.symm.trans (fX (v := vR o.rg o.res) hokn hlk (fun q hq => hI.2 q (by show q < k; have : q < bj o.rg := hq; omega)))
      simp only [Prod.mk.injEq] at hq
      obtain ⟨⟨rfl, rfl⟩, rfl, -⟩ := hq
      exact ⟨(A4, c4), rfl, h1, h2, h3⟩)
   | (have hq := hG.symm.trans (jc (v := vR o.rg o.res) rfl hi0 hokn hlk hk hI.2 h12_2)
      simp only [Prod.mk.injEq] at hq
      obtain ⟨⟨rfl, rfl⟩, rfl, -⟩ := hq
      exact ⟨(A4, c4), rfl, h1, by rw [eQ]; exact h2, by rw [eQ]; exact h3⟩)
   | (trace_state; fail)
 refine ae ?_
 refine aj ?_
 refine au rfl ?_
 refine aH ?_
 refine bq ?_
 refine aj ?_
 refine ab ?_
 refine ap (ak rfl) rfl rfl ?_
 refine ap (bg rfl rfl (by omega) (by omega)) rfl rfl ?_
 refine ap (ai rfl) rfl rfl ?_
 refine ae ?_
 refine bo (k + 1) ?_ ?_ ⟨rfl, trivial⟩ (by repeat (first | exact trivial | refine ⟨rfl, ?_⟩)) (bS 1)
 refine ⟨by omega, fun q hq => ?_⟩
 by_cases e : q = k
 · rw [e]; exact h12_2
 · exact hI.2 q (by omega)
 omega
 refine bZ (i := 14) rfl rfl rfl (fun _ _ _ => a7 (by kernel_rfl)) rfl ?_ ?_
 refine bz aN rfl rfl (fun b6 => ?_)
 refine ae ?_
 refine bc (bS 1) ?_
 refine bD (i := 10) rfl rfl rfl (br rfl ent_93) (by kernel_rfl) rfl ?_
 refine bv rfl ent_93 rfl (c_ref05At o.rg (gj n (bj o.rg) k) hr p4 p5) (fun w hw => bf) ?_
 refine ae ?_
 refine bc (bS 1) ?_
 refine f0 (t := 54) (.tuple #[.agg (dN (atR o.rg (gj n (bj o.rg) k)).1).toArray, .bool true]) rfl (by rw [hpe]) ?_
 refine ax (i := 11) rfl ah (ak rfl) (bS 1) aw rfl (aa (aq (aa (av (aq (aa ar)))))) (by kernel_rfl) rfl ?_
 refine ax (i := 12) rfl ah (aI rfl rfl) (bS 1) aw rfl (aa (aq (aa (av (aq (aa ar)))))) (by kernel_rfl) rfl ?_
 refine ax (i := 13) rfl ah (aI rfl rfl) (bS 1) aw rfl (aa (aq (aa (av (aq (aa ar)))))) (by kernel_rfl) rfl ?_
 refine bD (i := 15) rfl rfl rfl (fun _ _ _ => a7 (by kernel_rfl)) (by kernel_rfl) rfl ?_
 refine aT aN rfl rfl rfl .z rfl rfl rfl rfl ?_
 refine ae ?_
 refine bc (bS 1) ?_
 refine ax (i := 16) rfl ah (ai rfl) (bS 1) aw rfl (aa (aq (aa (av (aq (aa ar)))))) (by kernel_rfl) rfl ?_
 refine bQ (by kernel_rfl) ?_
 refine aj ?_
 refine ao ?_
 refine ab ?_
 refine ap (ak rfl) rfl rfl ?_
 refine ap (aK 0 aN rfl rfl rfl rfl) rfl rfl ?_
 refine bv rfl ent_184 rfl (c_ofree o Ah ch hm (atR o.rg (gj n (bj o.rg) k)).1 hrs hrl hpa hml) (fun w hw => (aQ (dL 2 rfl hw) (aQ (eF 3 rfl hw) (aQ (cI 0 rfl hw) bf)))) ?_
 refine bk (t := 59) rfl (fun h12_2 => ?_) (fun h12_2 => ?_)
 refine ae ?_
 refine aj ?_
 refine ay rfl ?_
 refine ao ?_
 refine w_drawUC 12 (.cons_cons _ (.cons_cons _ (.cons_cons _ (.cons _ .slnil)))) rfl mixed ?_
 refine ax (i := 0) rfl ah (ak rfl) (fun w h => h.weak (.cons_cons _ (.cons_cons _ (.cons_cons _ (.cons _ .slnil)))) (fun s hs => hs)) aw rfl (aa (aq (aa (av (aq (aa ar)))))) (by kernel_rfl) rfl ?_
 refine ax (i := 1) rfl ah (ak rfl) (fun w h => h.weak (.cons_cons _ (.cons_cons _ (.cons_cons _ (.cons _ .slnil)))) (fun s hs => hs)) aw rfl (aa (aq (aa (av (aq (aa ar)))))) (by kernel_rfl) rfl ?_
 refine ax (i := 2) rfl ah (aR rfl) (fun w h => h.weak (.cons_cons _ (.cons_cons _ (.cons_cons _ (.cons _ .slnil)))) (fun s hs => hs)) aw rfl (aa (aq (aa (av (aq (aa ar)))))) (by kernel_rfl) rfl ?_
 refine ax (i := 3) rfl ah (aB bU rfl) (fun w h => h.weak (.cons_cons _ (.cons_cons _ (.cons_cons _ (.cons _ .slnil)))) (fun s hs => hs)) aw rfl (aa (aq (aa (av (aq (aa ar)))))) (by kernel_rfl) rfl ?_
 refine ax (i := 4) rfl ah (aM 2 dl rfl rfl rfl) (fun w h => h.weak (.cons_cons _ (.cons_cons _ (.cons_cons _ (.cons _ .slnil)))) (fun s hs => hs)) aw rfl (aa (aq (aa (av (aq (aa ar)))))) (by kernel_rfl) rfl ?_
 refine ax (i := 5) rfl ah (ak rfl) (fun w h => h.weak (.cons_cons _ (.cons_cons _ (.cons_cons _ (.cons _ .slnil)))) (fun s hs => hs)) aw rfl (aa (aq (aa (av (aq (aa ar)))))) (by kernel_rfl) rfl ?_
 refine ax (i := 6) rfl ah (aK 0 aN rfl rfl rfl rfl) (fun w h => h.weak (.cons_cons _ (.cons_cons _ (.cons_cons _ (.cons _ .slnil)))) (fun s hs => hs)) aw rfl (aa (aq (aa (av (aq (aa ar)))))) (by kernel_rfl) rfl ?_
 refine ax (i := 7) rfl ah (bN rfl (gS _ _ _ _)) (fun w h => h.weak (.cons_cons _ (.cons_cons _ (.cons_cons _ (.cons _ .slnil)))) (fun s hs => hs)) aw rfl (aa (aq (aa (av (aq (aa ar)))))) (by kernel_rfl) rfl ?_
 refine bD (i := 8) rfl rfl rfl (fun _ _ _ => a7 (by kernel_rfl)) (by kernel_rfl) rfl ?_
 refine du (vs := [_]) ([(⟨n, (atR o.rg (gj n (bj o.rg) k)).1⟩ : Hd)] : List (Hd)) bI Tryz.underlying25 bh rfl rfl rfl rfl rfl rfl (fun As7 => ?_)
 refine ae ?_
 refine bc (fun w h => h.weak (.cons _ (.cons_cons _ (.cons_cons _ (.cons_cons _ (.cons _ .slnil))))) (fun s hs => hs)) ?_
 refine bD (i := 9) rfl rfl rfl (fun _ _ _ => a7 (by kernel_rfl)) (by kernel_rfl) rfl ?_
 refine cg (enc := d4) (sz := 4) [(⟨n, (atR o.rg (gj n (bj o.rg) k)).1⟩ : Hd)] Tryz.underlying25 bh rfl rfl rfl (fun A c => (.s (.s (.s (.s (.z)))))) (eZ 0 Tryz.underlying25 rfl) (by simp only [List.length_cons, List.length_nil, Nat.zero_add]; omega) (by simp only [List.length_cons, List.length_nil, Nat.zero_add]; omega) rfl (fun A7 c7 => ?_)
 refine ae ?_
 refine bc (fun w h => h.weak (.cons _ (.cons_cons _ (.cons_cons _ (.cons_cons _ (.cons _ .slnil))))) (fun s hs => hs)) ?_
 refine ax (i := 10) rfl ah (aR rfl) (fun w h => h.weak (.cons _ (.cons_cons _ (.cons_cons _ (.cons_cons _ (.cons _ .slnil))))) (fun s hs => hs)) aw rfl (aa (aq (aa (av (aq (aa ar)))))) (by kernel_rfl) rfl ?_
 refine ax (i := 11) rfl ah (aB bU rfl) (fun w h => h.weak (.cons _ (.cons_cons _ (.cons_cons _ (.cons_cons _ (.cons _ .slnil))))) (fun s hs => hs)) aw rfl (aa (aq (aa (av (aq (aa ar)))))) (by kernel_rfl) rfl ?_
 refine bD (i := 12) rfl rfl rfl (fun _ _ _ => a7 (by kernel_rfl)) (by kernel_rfl) rfl ?_
 refine aT dl rfl rfl rfl (.s (.s (.s (.z)))) rfl rfl rfl rfl ?_
 refine ae ?_
 refine eu_tail rfl ?_
 refine bQ (by kernel_rfl) ?_
 refine aj ?_
 refine ao ?_
 refine ab ?_
 refine ap (aK 1 aN rfl rfl rfl rfl) rfl rfl ?_
 refine aT aN rfl rfl rfl (.s (.s (.z))) rfl rfl rfl rfl ?_
 refine ap (ai rfl) rfl rfl ?_
 refine ae ?_
 refine aj ?_
 refine aF ?_
 refine aL ?_
 refine aA ?_
 refine bu ?_
 refine aL ?_
 refine aA ?_
 refine dp (rs := [.cell 4 29, .tmp 5]) rfl (bA 2 aN rfl rfl rfl rfl (cC rfl bR)) rfl (fun w hw => ?_)
 obtain ⟨h1, h2, h3⟩ := (hw.weak (.cons _ (.cons _ (.cons _ (.cons_cons _ (.cons_cons _ .slnil))))) (fun s hs => hs)).f1.f1.two.uc
 focus first
   | (have hq := hG.symm.trans (cM (v := vR o.rg o.res) (hm := hm) (am := bw hm) h1_1)
      simp only [Prod.mk.injEq] at hq
      obtain ⟨⟨rfl, rfl⟩, rfl, -⟩ := hq
      exact ⟨(A7, c7), rfl, h1, h2, h3⟩)
   | (have hq := hG.symm.trans (cF (v := vR o.rg o.res) (am := bw hm) hok9 (by rw [hlk9]; rfl))
      rw [hlk9] at hq
      simp only [Prod.mk.injEq] at hq
      obtain ⟨⟨rfl, rfl⟩, rfl, -⟩ := hq
      exact ⟨(A7, c7), rfl, h1, h2, h3⟩)
   | (have hq := hG.symm.trans (fX (v := vR o.rg o.res) hokn hlk (fun q hq => hI.2 q (by show q < k; have : q < bj o.rg := hq; omega)))
      simp only [Prod.mk.injEq] at hq
      obtain ⟨⟨rfl, rfl⟩, rfl, -⟩ := hq
      exact ⟨(A7, c7), rfl, h1, h2, h3⟩)
   | (have hq := hG.symm.trans (jc (v := vR o.rg o.res) rfl hi0 hokn hlk hk hI.2 h12_2)
      simp only [Prod.mk.injEq] at hq
      obtain ⟨⟨rfl, rfl⟩, rfl, -⟩ := hq
      exact ⟨(A7, c7), rfl, h1, by rw [eQ]; exact h2, by rw [eQ]; exact h3⟩)
   | (trace_state; fail)
 refine ae ?_
 refine aj ?_
 refine au rfl ?_
 refine aH ?_
 refine bq ?_
 refine aj ?_
 refine ab ?_
 refine ap (ak rfl) rfl rfl ?_
 refine ap (bg rfl rfl (by omega) (by omega)) rfl rfl ?_
 refine ap (ai rfl) rfl rfl ?_
 refine ae ?_
 refine bo (k + 1) ?_ ?_ ⟨rfl, trivial⟩ (by repeat (first | exact trivial | refine ⟨rfl, ?_⟩)) (bS 1)
 refine ⟨by omega, fun q hq => ?_⟩
 by_cases e : q = k
 · rw [e]; exact h12_2
 · exact hI.2 q (by omega)
 omega
 exact d8
 refine ae ?_
 refine aj ?_
 refine au rfl ?_
 refine bC ?_
 refine aY ?_
 refine aU ?_
 refine a8 ?_
 refine aj ?_
 refine ao ?_
 refine ab ?_
 refine ap (bN rfl (e6)) rfl rfl ?_
 refine aT aN rfl rfl rfl .z rfl rfl rfl rfl ?_
 refine ap (ai rfl) rfl rfl ?_
 refine ae ?_
 refine aj ?_
 refine aF ?_
 refine dp (rs := [.cell 4 29, .tmp 5]) rfl (bA 0 aN rfl rfl rfl rfl (cC rfl bR)) rfl (fun w hw => ?_)
 obtain ⟨h1, h2, h3⟩ := (hw.weak (.cons _ (.cons_cons _ (.cons_cons _ .slnil))) (fun s hs => hs)).f1.f1.two.uc
 focus first
   | (have hq := hG.symm.trans (cM (v := vR o.rg o.res) (hm := hm) (am := bw hm) h1_1)
      simp only [Prod.mk.injEq] at hq
      obtain ⟨⟨rfl, rfl⟩, rfl, -⟩ := hq
      exact ⟨(Ah, ch), rfl, h1, h2, h3⟩)
   | (have hq := hG.symm.trans (cF (v := vR o.rg o.res) (am := bw hm) hok9 (by rw [hlk9]; rfl))
      rw [hlk9] at hq
      simp only [Prod.mk.injEq] at hq
      obtain ⟨⟨rfl, rfl⟩, rfl, -⟩ := hq
      exact ⟨(Ah, ch), rfl, h1, h2, h3⟩)
   | (have hq := hG.symm.trans (fX (v := vR o.rg o.res) hokn hlk (fun q hq => hI.2 q (by show q < k; have : q < bj o.rg := hq; omega)))
      simp only [Prod.mk.injEq] at hq
      obtain ⟨⟨rfl, rfl⟩, rfl, -⟩ := hq
      exact ⟨(Ah, ch), rfl, h1, h2, h3⟩)
   | (have hq := hG.symm.trans (jc (v := vR o.rg o.res) rfl hi0 hokn hlk hk hI.2 h12_2)
      simp only [Prod.mk.injEq] at hq
      obtain ⟨⟨rfl, rfl⟩, rfl, -⟩ := hq
      exact ⟨(Ah, ch), rfl, h1, by rw [eQ]; exact h2, by rw [eQ]; exact h3⟩)
   | (trace_state; fail)
 refine ap (bJ rfl) rfl rfl ?_
 refine ae ?_
 refine aj ?_
 refine ay rfl ?_
 refine ao ?_
 refine ab ?_
 refine ap (bN rfl (e6)) rfl rfl ?_
 refine aT aN rfl rfl rfl .z rfl rfl rfl rfl ?_
 refine ap (ai rfl) rfl rfl ?_
 refine ae ?_
 refine aj ?_
 refine aF ?_
 refine aA ?_
 refine dp (rs := [.cell 4 29, .tmp 5]) rfl (bA 0 aN rfl rfl rfl rfl (cC rfl bR)) rfl (fun w hw => ?_)
 obtain ⟨h1, h2, h3⟩ := (hw.weak (.cons _ (.cons_cons _ (.cons_cons _ .slnil))) (fun s hs => hs)).f1.f1.two.uc
 focus first
   | (have hq := hG.symm.trans (cM (v := vR o.rg o.res) (hm := hm) (am := bw hm) h1_1)
      simp only [Prod.mk.injEq] at hq
      obtain ⟨⟨rfl, rfl⟩, rfl, -⟩ := hq
      exact ⟨(Ah, ch), rfl, h1, h2, h3⟩)
   | (have hq := hG.symm.trans (cF (v := vR o.rg o.res) (am := bw hm) hok9 (by rw [hlk9]; rfl))
      rw [hlk9] at hq
      simp only [Prod.mk.injEq] at hq
      obtain ⟨⟨rfl, rfl⟩, rfl, -⟩ := hq
      exact ⟨(Ah, ch), rfl, h1, h2, h3⟩)
   | (have hq := hG.symm.trans (fX (v := vR o.rg o.res) hokn hlk (fun q hq => hI.2 q (by show q < k; have : q < bj o.rg := hq; omega)))
      simp only [Prod.mk.injEq] at hq
      obtain ⟨⟨rfl, rfl⟩, rfl, -⟩ := hq
      exact ⟨(Ah, ch), rfl, h1, h2, h3⟩)
   | (have hq := hG.symm.trans (jc (v := vR o.rg o.res) rfl hi0 hokn hlk hk hI.2 h12_2)
      simp only [Prod.mk.injEq] at hq
      obtain ⟨⟨rfl, rfl⟩, rfl, -⟩ := hq
      exact ⟨(Ah, ch), rfl, h1, by rw [eQ]; exact h2, by rw [eQ]; exact h3⟩)
   | (trace_state; fail)

set_option maxRecDepth 100000 in
set_option maxHeartbeats 4000000 in
theorem c_oDrop (o : Rp) (Ah : Option Addr) (ch : Nat) (hm : Hm) (n : aV) (hi0 : HInv (vR o.rg o.res) hm) (hn : n.length ≤ 1000000000) (hml : hm.length ≤ 1000000) (e : Int) (hm2 : Hm) (hD : di hm (bw hm) n = (e, hm2, bw hm2)) : UC Tryz.prog 115 #[.pointer (some ⟨o.b, 0, none⟩), .string (ba n)] [] (rpCh o Ah ch (cj hm)) (α := Option Addr × Nat) (fun p => .int .i64 e) (fun p => rpCh o p.1 p.2 (cj hm2)) := by
 refine ea (args := [.pointer (some ⟨o.b, 0, none⟩), .string (ba n)]) 33 Tryz.func115 rfl rfl rfl (fun w0 => ?_)
 refine cH (fun w h => h.untwo) ?_
 have hhl := cK hm
 refine ao ?_
 refine ab ?_
 refine ap (ai rfl) rfl rfl ?_
 refine ae ?_
 refine aj ?_
 refine ao ?_
 refine ao ?_
 refine ab ?_
 refine ap (ak rfl) rfl rfl ?_
 refine aS rfl ent_181 (c_ohost _) rfl ?_
 refine bk (t := 7) rfl (fun h1_1 => ?_) (fun h1_1 => ?_)
 refine ap (bJ rfl) rfl rfl ?_
 refine ae ?_
 refine aj ?_
 refine au rfl ?_
 refine aH ?_
 refine aj ?_
 refine ao ?_
 refine ab ?_
 refine ap (ak rfl) rfl rfl ?_
 refine ap (ak rfl) rfl rfl ?_
 refine gK rfl ent_182 rfl (c_ofind o Ah ch hm n hi0.inv hn hml) (fun w hw => (aQ (dL 0 rfl hw) (aQ (eF 1 rfl hw) bf))) (fun ⟨i9, hfi⟩ => ?_)
 refine bV (t := 11) (.int .i64 i9) rfl rfl ?_
 refine ap (ai rfl) rfl rfl ?_
 refine ae ?_
 refine aj ?_
 refine ao ?_
 refine ao ?_
 refine ab ?_
 refine ap (ak rfl) rfl rfl ?_
 refine ap (bF rfl rfl) rfl rfl ?_
 refine aC (t := 13) rfl (fun h4_1 => ?_) (fun h4_1 => ?_)
 obtain ⟨rfl, -, hlk0⟩ := hfi.resolve_right (fun ⟨k, h, _⟩ => by omega)
 have hokn : bl n = true := h1_1
 refine ae ?_
 refine aj ?_
 refine ay rfl ?_
 refine ao ?_
 refine ab ?_
 refine ap (ai rfl) rfl rfl ?_
 refine ae ?_
 refine aj ?_
 refine aF ?_
 refine aA ?_
 refine aJ (ts := [4]) rfl rfl rfl (fun w hw => ?_)
 obtain ⟨h1, h2, h3⟩ := (hw.weak (.cons_cons _ (.cons_cons _ .slnil)) (fun s hs => hs)).f1.f1.two.uc
 focus first
   | (have hq := hD.symm.trans (i3 (hm := hm) h1_1)
      simp only [Prod.mk.injEq] at hq
      obtain ⟨rfl, rfl, -⟩ := hq
      exact ⟨(Ah, ch), rfl, h1, h2, h3⟩)
   | (have hq := hD.symm.trans (gV hokn (hlk0 hokn))
      simp only [Prod.mk.injEq] at hq
      obtain ⟨rfl, rfl, -⟩ := hq
      exact ⟨(Ah, ch), rfl, h1, h2, h3⟩)
   | (obtain ⟨hm3, d1, d2⟩ := drop_at hi0.inv hok9 hk9 hke9
      have hq := hD.symm.trans d1
      simp only [Prod.mk.injEq] at hq
      obtain ⟨rfl, rfl, -⟩ := hq
      exact ⟨(Ah, ch), rfl, h1, by rw [d2]; exact h2, by rw [d2]; exact h3⟩)
   | (trace_state; fail)
 obtain ⟨k9, rfl, hk9, hok9, hke9, hlk9⟩ := hfi.resolve_left (fun h => by omega)
 refine ae ?_
 refine aj ?_
 refine au rfl ?_
 refine aH ?_
 refine aj ?_
 refine ao ?_
 refine de 19 rfl mixed ?_
 refine ax (i := 0) rfl ah (ak rfl) aw aw rfl (aa ar) (by kernel_rfl) rfl ?_
 refine ax (i := 2) rfl ah (ak rfl) aw aw rfl (aa ar) (by kernel_rfl) rfl ?_
 refine ax (i := 3) rfl ah (aR rfl) aw aw rfl (aa ar) (by kernel_rfl) rfl ?_
 refine ax (i := 4) rfl ah (aB bU rfl) aw aw rfl (aa ar) (by kernel_rfl) rfl ?_
 refine ax (i := 5) rfl ah (aM 0 dl rfl rfl rfl) aw aw rfl (aa ar) (by kernel_rfl) rfl ?_
 refine ax (i := 6) rfl ah (ak rfl) aw aw rfl (aa ar) (by kernel_rfl) rfl ?_
 refine ax (i := 7) rfl ah (y_takes (m := k9) Tryz.underlying25 bh rfl rfl (by omega) (by omega) (cap_L 1 rfl)) aw aw rfl (aa ar) (by kernel_rfl) rfl ?_
 refine ax (i := 9) rfl ah (ak rfl) aw aw rfl (aa ar) (by kernel_rfl) rfl ?_
 refine ax (i := 10) rfl ah (aR rfl) aw aw rfl (aa ar) (by kernel_rfl) rfl ?_
 refine ax (i := 11) rfl ah (aB bU rfl) aw aw rfl (aa ar) (by kernel_rfl) rfl ?_
 refine ax (i := 12) rfl ah (aM 0 dl rfl rfl rfl) aw aw rfl (aa ar) (by kernel_rfl) rfl ?_
 refine ax (i := 13) rfl ah (ak rfl) aw aw rfl (aa ar) (by kernel_rfl) rfl ?_
 refine ax (i := 14) rfl ah (bg rfl rfl (by omega) (by omega)) aw aw rfl (aa ar) (by kernel_rfl) rfl ?_
 refine ax (i := 15) rfl ah (y_drop (m := k9 + 1) Tryz.underlying25 bh rfl rfl (by omega) (by omega)) aw aw rfl (aa ar) (by kernel_rfl) rfl ?_
 refine bD (i := 1) rfl rfl rfl (fun _ _ _ => a7 (by kernel_rfl)) (by kernel_rfl) rfl ?_
 refine du (vs := []) (([] : List Hd) : List (Hd)) bI Tryz.underlying25 bh rfl rfl rfl rfl rfl rfl (fun As2 => ?_)
 refine ae ?_
 refine bc (bS 1) ?_
 refine bD (i := 8) rfl rfl rfl (fun _ _ _ => a7 (by kernel_rfl)) (by kernel_rfl) rfl ?_
 refine cg (enc := d4) (sz := 4) ((cj hm).take k9) Tryz.underlying25 bh rfl rfl rfl (fun A c => .z) (fun w hw => RsP.src Tryz.underlying25 (fp bI 2 rfl (by omega) hw).1) (by simp; omega) (by simp; omega) rfl (fun A2 c2 => ?_)
 refine ae ?_
 refine bc (bS 1) ?_
 refine bD (i := 16) rfl rfl rfl (fun _ _ _ => a7 (by kernel_rfl)) (by kernel_rfl) rfl ?_
 refine cg (enc := d4) (sz := 4) ((cj hm).drop (k9 + 1)) Tryz.underlying25 bh rfl rfl rfl (fun A c => .z) (fun w hw => RsP.src Tryz.underlying25 (fj bI 2 rfl (by omega) hw).1) (by simp; omega) (by simp; omega) rfl (fun A3 c3 => ?_)
 refine ae ?_
 refine bc (bS 1) ?_
 refine ax (i := 17) rfl ah (aR rfl) (bS 1) aw rfl (aa ar) (by kernel_rfl) rfl ?_
 refine ax (i := 18) rfl ah (aB bU rfl) (bS 1) aw rfl (aa ar) (by kernel_rfl) rfl ?_
 refine bD (i := 19) rfl rfl rfl (fun _ _ _ => a7 (by kernel_rfl)) (by kernel_rfl) rfl ?_
 refine aT dl rfl rfl rfl (.s (.z)) rfl rfl rfl rfl ?_
 refine ae ?_
 refine eu_tail rfl ?_
 refine bQ (by kernel_rfl) ?_
 refine aj ?_
 refine ao ?_
 refine ab ?_
 refine ap (ai rfl) rfl rfl ?_
 refine ae ?_
 refine aj ?_
 refine aF ?_
 refine aJ (ts := [4]) rfl rfl rfl (fun w hw => ?_)
 obtain ⟨h1, h2, h3⟩ := (hw.weak (.cons_cons _ (.cons_cons _ (.cons _ .slnil))) (fun s hs => hs)).f1.two.uc
 focus first
   | (have hq := hD.symm.trans (i3 (hm := hm) h1_1)
      simp only [Prod.mk.injEq] at hq
      obtain ⟨rfl, rfl, -⟩ := hq
      exact ⟨(A3, c3), rfl, h1, h2, h3⟩)
   | (have hq := hD.symm.trans (gV hokn (hlk0 hokn))
      simp only [Prod.mk.injEq] at hq
      obtain ⟨rfl, rfl, -⟩ := hq
      exact ⟨(A3, c3), rfl, h1, h2, h3⟩)
   | (obtain ⟨hm3, d1, d2⟩ := drop_at hi0.inv hok9 hk9 hke9
      have hq := hD.symm.trans d1
      simp only [Prod.mk.injEq] at hq
      obtain ⟨rfl, rfl, -⟩ := hq
      exact ⟨(A3, c3), rfl, h1, by rw [d2]; exact h2, by rw [d2]; exact h3⟩)
   | (trace_state; fail)
 refine ap (bJ rfl) rfl rfl ?_
 refine ae ?_
 refine aj ?_
 refine ay rfl ?_
 refine ao ?_
 refine ab ?_
 refine ap (ai rfl) rfl rfl ?_
 refine ae ?_
 refine aj ?_
 refine aF ?_
 refine aA ?_
 refine aJ (ts := [4]) rfl rfl rfl (fun w hw => ?_)
 obtain ⟨h1, h2, h3⟩ := (hw.weak (.cons_cons _ (.cons_cons _ .slnil)) (fun s hs => hs)).f1.f1.two.uc
 focus first
   | (have hq := hD.symm.trans (i3 (hm := hm) h1_1)
      simp only [Prod.mk.injEq] at hq
      obtain ⟨rfl, rfl, -⟩ := hq
      exact ⟨(Ah, ch), rfl, h1, h2, h3⟩)
   | (have hq := hD.symm.trans (gV hokn (hlk0 hokn))
      simp only [Prod.mk.injEq] at hq
      obtain ⟨rfl, rfl, -⟩ := hq
      exact ⟨(Ah, ch), rfl, h1, h2, h3⟩)
   | (obtain ⟨hm3, d1, d2⟩ := drop_at hi0.inv hok9 hk9 hke9
      have hq := hD.symm.trans d1
      simp only [Prod.mk.injEq] at hq
      obtain ⟨rfl, rfl, -⟩ := hq
      exact ⟨(Ah, ch), rfl, h1, by rw [d2]; exact h2, by rw [d2]; exact h3⟩)
   | (trace_state; fail)
end Go.Proofs.YtnpdgmoeoidppaaGreat
