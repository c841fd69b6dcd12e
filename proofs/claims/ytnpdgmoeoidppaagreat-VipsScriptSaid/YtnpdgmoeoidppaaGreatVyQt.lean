import Derived.Test.YtnpdgmoeoidppaaGreatVxQt
/- law 14: scripts -/
namespace Go.Proofs.YtnpdgmoeoidppaaGreat
open Go.RowKit Go.Shelf
set_option linter.unusedVariables false
set_option linter.unusedSimpArgs false

theorem ent_115 : Enters Tryz.prog 115 := enters_of Tryz.func115 (by kernel_rfl) rfl
theorem ent_116 : Enters Tryz.prog 116 := enters_of Tryz.func116 (by kernel_rfl) rfl
theorem ent_117 : Enters Tryz.prog 117 := enters_of Tryz.func117 (by kernel_rfl) rfl
theorem ent_118 : Enters Tryz.prog 118 := enters_of Tryz.func118 (by kernel_rfl) rfl
theorem ent_119 : Enters Tryz.prog 119 := enters_of Tryz.func119 (by kernel_rfl) rfl
theorem ent_47 : Enters Tryz.prog 47 := enters_of Tryz.func47 (by kernel_rfl) rfl
theorem ent_48 : Enters Tryz.prog 48 := enters_of Tryz.func48 (by kernel_rfl) rfl
theorem ent_49 : Enters Tryz.prog 49 := enters_of Tryz.func49 (by kernel_rfl) rfl
theorem ent_50 : Enters Tryz.prog 50 := enters_of Tryz.func50 (by kernel_rfl) rfl
theorem ent_51 : Enters Tryz.prog 51 := enters_of Tryz.func51 (by kernel_rfl) rfl
theorem fa_85_0 : FA Tryz.prog 85 0 0 := fun b o w => by kernel_rfl
theorem fa_85_3 : FA Tryz.prog 85 3 3 := fun b o w => by kernel_rfl

theorem give_keeps {v : Vp} {hm hm2 : Hm} {n : aV} {a : Ad} {e : Int} (h : HInv v hm) (hG : bK v hm (bw hm) n = ((a, e), hm2, bw hm2)) : HInv v hm2 := by
  by_cases hn : bl n = true
  · have := h.give hn; rw [hG] at this; exact this
  · rw [cM (by simpa using hn)] at hG
    simp only [Prod.mk.injEq] at hG
    rw [← hG.2.1]; exact h
theorem drop_form {v : Vp} {hm : Hm} (h : HInv v hm) (n : aV) : ∃ e hm2, di hm (bw hm) n = (e, hm2, bw hm2) ∧ HInv v hm2 := by
  by_cases hn : bl n = true
  · by_cases hk : a6 n ∈ hm.map fun p => p.1
    · exact ⟨_, _, drop_ok h.inv hn hk, h.filter _⟩
    · exact ⟨_, _, gV hn (lkp_none_iff.2 hk), h⟩
  · exact ⟨_, _, i3 (by simpa using hn), h⟩
def AcOk (a : Ac) : Prop := -9223372036854775808 ≤ a.kind ∧ a.kind ≤ 9223372036854775807 ∧ gO a.ad ∧ a.host.length ≤ 9223372036854775807 ∧ a.hosts.length ≤ 9223372036854775807 ∧ ∀ s ∈ a.hosts, s.length ≤ 9223372036854775807
theorem light_ac {a : Ac} (h : bT a = true) : a.host.length ≤ 400 ∧ a.hosts.length ≤ 20 ∧ ∀ n ∈ a.hosts, n.length ≤ 400 := by
  simp only [bT, ed, Bool.and_eq_true, decide_eq_true_eq, List.all_eq_true] at h; exact ⟨h.1, h.2.1, h.2.2⟩
theorem light_acts {rg : Rg} {nr : Nat} {acts : List Ac} (h : bG rg nr acts = true) : nr ≤ 6 ∧ acts.length ≤ 60 ∧ ∀ a ∈ acts, bT a = true := by
  simp only [bG, Bool.and_eq_true, decide_eq_true_eq, List.all_eq_true] at h; exact ⟨h.2.2.1, h.2.1, h.1⟩

theorem c_Own_n (l : List aV) (A : Option Addr) (c : Nat) (hl : l.length ≤ 1000000) : RC Tryz.prog 116 #[.slice A l.length c] [Ch.rd A 1 dw l] (α := Option Addr × Nat) (fun p => .slice p.1 l.length p.2) (fun p => [Ch.ls p.1 p.2 26 1 dw l]) := by
 refine bi (args := [.slice A l.length c]) 6 Tryz.func116 rfl rfl rfl (fun w0 => ?_)
 refine ao ?_
 refine ab ?_
 refine ap (ai rfl) rfl rfl ?_
 refine ae ?_
 refine aj ?_
 refine ao ?_
 refine ab ?_
 refine du (vs := []) (([] : List aV) : List (aV)) dq Tryz.underlying59 bL rfl rfl rfl rfl rfl rfl (fun As1 => ?_)
 refine ap (ak rfl) rfl rfl ?_
 refine cg (enc := dw) (sz := 1) l Tryz.underlying59 bL rfl rfl rfl (fun A c => .z) (src_S 0 Tryz.underlying59 rfl) (by simp only [List.length_cons, List.length_nil, Nat.zero_add]; omega) (by simp only [List.length_cons, List.length_nil, Nat.zero_add]; omega) rfl (fun A1 c1 => ?_)
 refine ap (ai rfl) rfl rfl ?_
 refine ae ?_
 refine aj ?_
 refine aF ?_
 refine aJ (ts := [2]) rfl rfl rfl (fun w hw => ?_)
 exact ⟨(A1, c1), rfl, hw.base, (hw.weak (.cons_cons _ .slnil) (fun s hs => hs)).toNews⟩

set_option maxRecDepth 100000 in
set_option maxHeartbeats 4000000 in
theorem c_does (x : Vp) (o : Rp) (Ah : Option Addr) (ch : Nat) (hm : Hm) (act : Ac) (hx : x.rg = o.rg ∧ x.res = o.res ∧ x.room = dv o.rg o.res) (hI : HInv (vR o.rg o.res) hm) (hr : RgOk o.rg) (hz : cw o.rg = 0) (hrs : ∀ y ∈ o.res, RgOk y) (hrl : o.res.length ≤ 4398046510976) (hac : AcOk act) (hla : bT act = true) : UC Tryz.prog 49 #[.pointer (some ⟨x.b, 0, none⟩), .pointer (some ⟨o.b, 0, none⟩), .agg (acC act).toArray] [Ch.row x.b (vpC x) 146, Ch.rd x.A 4 dR x.res, Ch.rd o.A 4 dR o.res, Ch.rd act.A 1 dw act.hosts] (Ch.two (vmC x hm (bw hm)) (rpCh o Ah ch (cj hm))) (α := {z : Hm × Option Addr × Nat // HInv (vR o.rg o.res) z.1}) (fun z => .bool true) (fun z => Ch.two (vmC x z.1.1 (bw z.1.1)) (rpCh o z.1.2.1 z.1.2.2 (cj z.1.1))) := by
 refine ea (args := [.pointer (some ⟨x.b, 0, none⟩), .pointer (some ⟨o.b, 0, none⟩), .agg (acC act).toArray]) 134 Tryz.func49 rfl rfl rfl (fun w0 => ?_)
 obtain ⟨hl1, hl2, hl3⟩ := light_ac hla
 have hhb : ∀ n ∈ act.hosts, n.length ≤ 1000000000 := fun n hn => by have := hl3 n hn; omega
 have hll := iS hI
 refine cH (fun w h => h.untwo) ?_
 refine ao ?_
 refine ab ?_
 refine bE rfl rfl rfl (fun b1 => ?_)
 refine ap (ai rfl) rfl rfl ?_
 refine ae ?_
 refine aj ?_
 refine ao ?_
 refine ao ?_
 refine ab ?_
 refine ap (aB fa_85_0 rfl) rfl rfl ?_
 refine ap (aM 0 eW rfl rfl rfl) rfl rfl ?_
 refine aS rfl ent_48 (c_kit_Pick _ _ (by decide) (by decide)) rfl ?_
 refine ae ?_
 refine aj ?_
 refine aP ?_
 refine ao ?_
 refine ab ?_
 refine ap (dB rfl rfl) rfl rfl ?_
 refine aC (t := 27) rfl (fun h2_0 => ?_) (fun h2_0 => ?_)
 obtain ⟨a9, e9, hm2, hG, -⟩ := give_form (v := (vR o.rg o.res)) hI.inv act.host
 have hI2 := give_keeps hI hG
 refine ap (ai rfl) rfl rfl ?_
 refine ae ?_
 refine aj ?_
 refine ay rfl ?_
 refine ao ?_
 refine ab ?_
 refine ap (ak rfl) rfl rfl ?_
 refine ap (aB gz rfl) rfl rfl ?_
 refine ap (aM 0 bL rfl rfl rfl) rfl rfl ?_
 refine cu rfl ent_34 rfl (c_gE hx hr hrs hrl hG (by omega) (by omega)) (fun o => (.s (.z))) (List.mem_of_getElem? (i := 1) rfl) (fun s hs => sub2 (List.mem_of_getElem? (i := 0) rfl) (List.mem_of_getElem? (i := 1) rfl) hs) (fun r1 => ?_)
 refine ap (ak rfl) rfl rfl ?_
 refine ap (aI rfl rfl) rfl rfl ?_
 refine ap (aI rfl rfl) rfl rfl ?_
 refine bz aN rfl rfl (fun b3 => ?_)
 refine aT aN rfl rfl rfl .z rfl rfl rfl rfl ?_
 refine ap (ai rfl) rfl rfl ?_
 refine ae ?_
 refine aj ?_
 refine ao ?_
 refine ab ?_
 refine ap (ak rfl) rfl rfl ?_
 refine ap (aB gz rfl) rfl rfl ?_
 refine ap (aM 1 bL rfl rfl rfl) rfl rfl ?_
 refine cu rfl ent_114 rfl (c_oGive o Ah ch hm act.host hI (by omega) (by omega) hr hz hrs hrl a9 e9 hm2 hG) (fun o => (.s (.s (.s (.z))))) (List.mem_of_getElem? (i := 3) rfl) (fun s hs => sub1 (List.mem_of_getElem? (i := 2) rfl) hs) (fun ⟨A3, c3⟩ => ?_)
 refine ap (ak rfl) rfl rfl ?_
 refine ap (aI rfl rfl) rfl rfl ?_
 refine ap (aI rfl rfl) rfl rfl ?_
 refine bz aN rfl rfl (fun b5 => ?_)
 refine aT aN rfl rfl rfl .z rfl rfl rfl rfl ?_
 refine ap (ai rfl) rfl rfl ?_
 refine ae ?_
 refine aj ?_
 refine ao ?_
 refine ab ?_
 refine ap (aK 1 aN rfl rfl rfl rfl) rfl rfl ?_
 refine ap (aK 0 aN rfl rfl rfl rfl) rfl rfl ?_
 refine ap (il (by kernel_rfl) rfl rfl (fq _ _) rfl) rfl rfl ?_
 refine fu (t := 44) rfl rfl ?_
 refine ap (ak rfl) rfl rfl ?_
 refine az rfl rfl ?_
 refine ap (ak rfl) rfl rfl ?_
 refine az rfl rfl ?_
 refine ap (ak rfl) rfl rfl ?_
 refine az rfl rfl ?_
 refine ap (dB rfl rfl) rfl rfl ?_
 refine fu (t := 48) rfl rfl ?_
 refine ap (aX rfl rfl) rfl rfl ?_
 refine ap (ai rfl) rfl rfl ?_
 refine ae ?_
 refine aj ?_
 refine aF ?_
 refine aL ?_
 refine aA ?_
 refine aJ (ts := [6]) rfl rfl rfl (fun w hw => ?_)
 obtain ⟨h1, h2, h3⟩ := (hw.weak (.cons _ (.cons _ (.cons _ (.cons_cons _ (.cons_cons _ .slnil))))) (fun s hs => hs)).f1.f1.two.uc
 focus first
   | exact ⟨⟨(hm, Ah, ch), hI⟩, rfl, h1, h2, h3⟩
   | exact ⟨⟨(hm2, A3, c3), hI2⟩, rfl, h1, h2, h3⟩
   | (trace_state; fail)
 refine ap (ai rfl) rfl rfl ?_
 refine ae ?_
 refine aj ?_
 refine au rfl ?_
 refine ao ?_
 refine ab ?_
 refine ap (dB rfl rfl) rfl rfl ?_
 refine aC (t := 51) rfl (fun h6_0 => ?_) (fun h6_0 => ?_)
 obtain ⟨e9, hm2, hD, hI2⟩ := drop_form hI act.host
 refine ap (ai rfl) rfl rfl ?_
 refine ae ?_
 refine aj ?_
 refine ay rfl ?_
 refine ao ?_
 refine w_drawUC 10 (.cons_cons _ (.cons _ (.cons _ .slnil))) rfl mixed ?_
 refine ax (i := 0) rfl ah (ak rfl) (fun w h => h.weak (.cons_cons _ (.cons _ (.cons _ .slnil))) (fun s hs => hs)) aw rfl (aa (aq (aa ar))) (by kernel_rfl) rfl ?_
 refine ax (i := 1) rfl ah (aB gz rfl) (fun w h => h.weak (.cons_cons _ (.cons _ (.cons _ .slnil))) (fun s hs => hs)) aw rfl (aa (aq (aa ar))) (by kernel_rfl) rfl ?_
 refine ax (i := 2) rfl ah (aM 0 bL rfl rfl rfl) (fun w h => h.weak (.cons_cons _ (.cons _ (.cons _ .slnil))) (fun s hs => hs)) aw rfl (aa (aq (aa ar))) (by kernel_rfl) rfl ?_
 refine ax (i := 4) rfl ah (ak rfl) (fun w h => h.weak (.cons_cons _ (.cons _ (.cons _ .slnil))) (fun s hs => hs)) aw rfl (aa (aq (aa ar))) (by kernel_rfl) rfl ?_
 refine ax (i := 5) rfl ah (aB gz rfl) (fun w h => h.weak (.cons_cons _ (.cons _ (.cons _ .slnil))) (fun s hs => hs)) aw rfl (aa (aq (aa ar))) (by kernel_rfl) rfl ?_
 refine ax (i := 6) rfl ah (aM 0 bL rfl rfl rfl) (fun w h => h.weak (.cons_cons _ (.cons _ (.cons _ .slnil))) (fun s hs => hs)) aw rfl (aa (aq (aa ar))) (by kernel_rfl) rfl ?_
 refine bD (i := 3) rfl rfl rfl (br rfl ent_38) (by kernel_rfl) rfl ?_
 refine cu rfl ent_38 rfl (c_dE hD (by omega)) (fun o => (.s (.z))) (List.mem_of_getElem? (i := 1) rfl) (fun s hs => sub1 (List.mem_of_getElem? (i := 0) rfl) hs) (fun r5 => ?_)
 refine ae ?_
 refine bc (fun w h => h.weak (.cons_cons _ (.cons _ (.cons _ .slnil))) (fun s hs => hs)) ?_
 refine bD (i := 7) rfl rfl rfl (br rfl ent_115) (by kernel_rfl) rfl ?_
 refine cu rfl ent_115 rfl (c_oDrop o Ah ch hm act.host hI (by omega) (by omega) e9 hm2 hD) (fun o => (.s (.s (.z)))) (List.mem_of_getElem? (i := 2) rfl) (fun s hs => nomatch hs) (fun ⟨A6, c6⟩ => ?_)
 refine ae ?_
 refine bc (fun w h => h.weak (.cons_cons _ (.cons _ (.cons _ .slnil))) (fun s hs => hs)) ?_
 refine ax (i := 8) rfl ah (dB rfl rfl) (fun w h => h.weak (.cons_cons _ (.cons _ (.cons _ .slnil))) (fun s hs => hs)) aw rfl (aa (aq (aa ar))) (by kernel_rfl) rfl ?_
 refine wu_at (t := 60) rfl rfl ?_
 refine ax (i := 9) rfl ah (ai rfl) (fun w h => h.weak (.cons_cons _ (.cons _ (.cons _ .slnil))) (fun s hs => hs)) aw rfl (aa (aq (aa ar))) (by kernel_rfl) rfl ?_
 refine bQ (by kernel_rfl) ?_
 refine aj ?_
 refine aF ?_
 refine aL ?_
 refine aA ?_
 refine aJ (ts := [6]) rfl rfl rfl (fun w hw => ?_)
 obtain ⟨h1, h2, h3⟩ := (hw.weak (.cons _ (.cons_cons _ (.cons_cons _ .slnil))) (fun s hs => hs)).f1.f1.two.uc
 focus first
   | exact ⟨⟨(hm, Ah, ch), hI⟩, rfl, h1, h2, h3⟩
   | exact ⟨⟨(hm2, A6, c6), hI2⟩, rfl, h1, h2, h3⟩
   | (trace_state; fail)
 refine ap (ai rfl) rfl rfl ?_
 refine ae ?_
 refine aj ?_
 refine au rfl ?_
 refine ao ?_
 refine ab ?_
 refine ap (dB rfl rfl) rfl rfl ?_
 refine aC (t := 62) rfl (fun h8_0 => ?_) (fun h8_0 => ?_)
 obtain ⟨⟨⟨ls, er⟩, hm2⟩, hK⟩ : ∃ r, cZ (vR o.rg o.res) hm act.hosts = r := ⟨_, rfl⟩
 have hI2 := keep_inv hI hK
 refine ap (ai rfl) rfl rfl ?_
 refine ae ?_
 refine aj ?_
 refine ay rfl ?_
 refine ao ?_
 refine ab ?_
 refine ap (ak rfl) rfl rfl ?_
 refine ap (aB iQ rfl) rfl rfl ?_
 refine ap (aM 0 ty_59 rfl rfl rfl) rfl rfl ?_
 refine co rfl ent_116 rfl (c_Own_n act.hosts _ _ (by omega)) (fun w hw => (aQ (cI 3 rfl hw) bf)) (fun ⟨A7, c7⟩ => ?_)
 refine cE (fun w h => h.toRdV) ?_
 refine cu rfl ent_41 rfl (c_kE hx hr hrs hrl hK _ _ hI.inv (by omega) hhb) (fun o => (.s (.z))) (List.mem_of_getElem? (i := 1) rfl) (fun s hs => sub3 (List.mem_of_getElem? (i := 1) rfl) (List.mem_of_getElem? (i := 2) rfl) (List.mem_of_getElem? (i := 0) rfl) hs) (fun ⟨Aa, ca⟩ => ?_)
 refine cE (fun w h => h.f1.untwo) ?_
 refine ap (ak rfl) rfl rfl ?_
 refine ap (aI rfl rfl) rfl rfl ?_
 refine ap (aI rfl rfl) rfl rfl ?_
 refine ap (ai rfl) rfl rfl ?_
 refine ap (ai rfl) rfl rfl ?_
 refine ae ?_
 refine aj ?_
 refine ao ?_
 refine ab ?_
 refine ap (ak rfl) rfl rfl ?_
 refine ap (aB iQ rfl) rfl rfl ?_
 refine ap (aM 2 ty_59 rfl rfl rfl) rfl rfl ?_
 refine cu rfl ent_117 rfl (c_oKeep o Ah ch hm act.hosts _ _ hI (by omega) hhb hr hz hrs hrl ls er hm2 hK) (fun o => (.s (.s (.s (.z))))) (List.mem_of_getElem? (i := 3) rfl) (fun s hs => sub2 (List.mem_of_getElem? (i := 3) rfl) (List.mem_of_getElem? (i := 4) rfl) hs) (fun ⟨⟨A9, c9⟩, Ab, cb⟩ => ?_)
 refine cE (fun w h => h.f3.untwo) ?_
 refine ap (ak rfl) rfl rfl ?_
 refine ap (aI rfl rfl) rfl rfl ?_
 refine ap (aI rfl rfl) rfl rfl ?_
 refine ap (ai rfl) rfl rfl ?_
 refine ap (ai rfl) rfl rfl ?_
 refine ae ?_
 refine aj ?_
 refine ao ?_
 refine ab ?_
 refine ap (ak rfl) rfl rfl ?_
 refine ap (ak rfl) rfl rfl ?_
 refine bv rfl ent_26 rfl (c_kit_Same_n ls ls _ _ _ _ (by have := lost_len14 hK; omega)) (fun w hw => (aQ (eF 3 rfl hw) (aQ (eF 1 rfl hw) bf))) ?_
 refine bV (t := 80) (.bool true) rfl (congrArg Value.bool (decide_eq_true rfl)) ?_
 refine ap (ak rfl) rfl rfl ?_
 refine az rfl rfl ?_
 refine ap (ak rfl) rfl rfl ?_
 refine az rfl rfl ?_
 refine ap (ak rfl) rfl rfl ?_
 refine az rfl rfl ?_
 refine ap (dB rfl rfl) rfl rfl ?_
 refine fu (t := 84) rfl rfl ?_
 refine ap (aX rfl rfl) rfl rfl ?_
 refine ap (ai rfl) rfl rfl ?_
 refine ae ?_
 refine aj ?_
 refine aF ?_
 refine aL ?_
 refine aA ?_
 refine aJ (ts := [6]) rfl rfl rfl (fun w hw => ?_)
 obtain ⟨h1, h2, h3⟩ := (hw.weak (.cons_cons _ (.cons _ (.cons_cons _ (.cons _ (.cons _ .slnil))))) (fun s hs => hs)).f1.two.uc
 focus first
   | exact ⟨⟨(hm, Ah, ch), hI⟩, rfl, h1, h2, h3⟩
   | exact ⟨⟨(hm2, A9, c9), hI2⟩, rfl, h1, h2, h3⟩
   | (trace_state; fail)
 refine ap (ai rfl) rfl rfl ?_
 refine ae ?_
 refine aj ?_
 refine au rfl ?_
 refine ao ?_
 refine ab ?_
 refine ap (dB rfl rfl) rfl rfl ?_
 refine aC (t := 87) rfl (fun h12_0 => ?_) (fun h12_0 => ?_)
 refine ap (ai rfl) rfl rfl ?_
 refine ae ?_
 refine aj ?_
 refine ay rfl ?_
 refine ao ?_
 refine ab ?_
 refine ap (ak rfl) rfl rfl ?_
 refine ap (aB gz rfl) rfl rfl ?_
 refine ap (aM 0 bL rfl rfl rfl) rfl rfl ?_
 refine bv rfl ent_37 rfl (c_vOf x hm act.host (by omega)) (fun w hw => (aQ (cI 0 rfl hw) (aQ (dT (dL 1 rfl hw)) bf))) ?_
 refine ap (ak rfl) rfl rfl ?_
 refine ap (aI rfl rfl) rfl rfl ?_
 refine ap (aI rfl rfl) rfl rfl ?_
 refine bz aN rfl rfl (fun b11 => ?_)
 refine aT aN rfl rfl rfl .z rfl rfl rfl rfl ?_
 refine ap (ai rfl) rfl rfl ?_
 refine ae ?_
 refine aj ?_
 refine ao ?_
 refine ab ?_
 refine ap (ak rfl) rfl rfl ?_
 refine ap (aB gz rfl) rfl rfl ?_
 refine ap (aM 1 bL rfl rfl rfl) rfl rfl ?_
 refine bv rfl ent_118 rfl (c_oOf o Ah ch hm act.host hI.inv (by omega) (by omega)) (fun w hw => (aQ (dT (dL 3 rfl hw)) (aQ (fb (fA (dL 3 rfl hw))) bf))) ?_
 refine ap (ak rfl) rfl rfl ?_
 refine ap (aI rfl rfl) rfl rfl ?_
 refine ap (aI rfl rfl) rfl rfl ?_
 refine bz aN rfl rfl (fun b12 => ?_)
 refine aT aN rfl rfl rfl .z rfl rfl rfl rfl ?_
 refine ap (ai rfl) rfl rfl ?_
 refine ae ?_
 refine aj ?_
 refine ao ?_
 refine ab ?_
 refine ap (aK 1 aN rfl rfl rfl rfl) rfl rfl ?_
 refine ap (aK 0 aN rfl rfl rfl rfl) rfl rfl ?_
 refine ap (il (by kernel_rfl) rfl rfl (fq _ _) rfl) rfl rfl ?_
 refine fu (t := 104) rfl rfl ?_
 refine ap (ak rfl) rfl rfl ?_
 refine az rfl rfl ?_
 refine ap (ak rfl) rfl rfl ?_
 refine az rfl rfl ?_
 refine ap (ak rfl) rfl rfl ?_
 refine az rfl rfl ?_
 refine ap (y_eqlb Tryz.underlying4 rfl rfl) rfl rfl ?_
 refine fu (t := 108) rfl rfl ?_
 refine ap (aX rfl rfl) rfl rfl ?_
 refine ap (ai rfl) rfl rfl ?_
 refine ae ?_
 refine aj ?_
 refine aF ?_
 refine aL ?_
 refine aA ?_
 refine aJ (ts := [6]) rfl rfl rfl (fun w hw => ?_)
 obtain ⟨h1, h2, h3⟩ := (hw.weak (.cons _ (.cons _ (.cons _ (.cons_cons _ (.cons_cons _ .slnil))))) (fun s hs => hs)).f1.f1.two.uc
 focus first
   | exact ⟨⟨(hm, Ah, ch), hI⟩, rfl, h1, h2, h3⟩
   | exact ⟨⟨(hm2, A0, c0), hI2⟩, rfl, h1, h2, h3⟩
   | (trace_state; fail)
 refine ap (ai rfl) rfl rfl ?_
 refine ae ?_
 refine aj ?_
 refine au rfl ?_
 refine ao ?_
 refine ab ?_
 refine ap (dB rfl rfl) rfl rfl ?_
 refine aC (t := 111) rfl (fun h16_0 => ?_) (fun h16_0 => ?_)
 refine ap (ai rfl) rfl rfl ?_
 refine ae ?_
 refine aj ?_
 refine ay rfl ?_
 refine ao ?_
 refine ab ?_
 refine ap (ak rfl) rfl rfl ?_
 refine ap (aB fa_85_3 rfl) rfl rfl ?_
 refine ap (aK 0 aN rfl rfl rfl rfl) rfl rfl ?_
 refine bv rfl ent_45 rfl (c_vHost x hm (bw hm) act.ad) (fun w hw => (aQ (cI 0 rfl hw) (aQ (dT (dL 1 rfl hw)) (aQ (fA (dL 1 rfl hw)) bf)))) ?_
 refine ap (ak rfl) rfl rfl ?_
 refine ap (aI rfl rfl) rfl rfl ?_
 refine ap (aI rfl rfl) rfl rfl ?_
 refine ap (ai rfl) rfl rfl ?_
 refine ap (ai rfl) rfl rfl ?_
 refine ae ?_
 refine aj ?_
 refine ao ?_
 refine ab ?_
 refine ap (ak rfl) rfl rfl ?_
 refine ap (aB fa_85_3 rfl) rfl rfl ?_
 refine ap (aK 0 aN rfl rfl rfl rfl) rfl rfl ?_
 refine bv rfl ent_119 rfl (c_oHost o Ah ch hm act.ad hI.inv (by omega)) (fun w hw => (aQ (dT (dL 2 rfl hw)) (aQ (fb (fA (dL 2 rfl hw))) bf))) ?_
 refine ap (ak rfl) rfl rfl ?_
 refine ap (aI rfl rfl) rfl rfl ?_
 refine ap (aI rfl rfl) rfl rfl ?_
 refine ap (ai rfl) rfl rfl ?_
 refine ap (ai rfl) rfl rfl ?_
 refine ae ?_
 refine aj ?_
 refine ao ?_
 refine ab ?_
 refine ap (ak rfl) rfl rfl ?_
 refine ap (ak rfl) rfl rfl ?_
 refine ap (y_eqls rfl rfl) rfl rfl ?_
 refine fu (t := 128) rfl rfl ?_
 refine ap (ak rfl) rfl rfl ?_
 refine az rfl rfl ?_
 refine ap (ak rfl) rfl rfl ?_
 refine az rfl rfl ?_
 refine ap (ak rfl) rfl rfl ?_
 refine az rfl rfl ?_
 refine ap (y_eqlb Tryz.underlying4 rfl rfl) rfl rfl ?_
 refine fu (t := 132) rfl rfl ?_
 refine ap (aX rfl rfl) rfl rfl ?_
 refine ap (ai rfl) rfl rfl ?_
 refine ae ?_
 refine aj ?_
 refine aF ?_
 refine aL ?_
 refine aA ?_
 refine aJ (ts := [6]) rfl rfl rfl (fun w hw => ?_)
 obtain ⟨h1, h2, h3⟩ := (hw.weak (.cons _ (.cons_cons _ (.cons_cons _ .slnil))) (fun s hs => hs)).f1.f1.two.uc
 focus first
   | exact ⟨⟨(hm, Ah, ch), hI⟩, rfl, h1, h2, h3⟩
   | exact ⟨⟨(hm2, A0, c0), hI2⟩, rfl, h1, h2, h3⟩
   | (trace_state; fail)
 refine ap (ai rfl) rfl rfl ?_
 refine ae ?_
 refine aj ?_
 refine au rfl ?_
 refine aH ?_
 refine bq ?_
 refine aj ?_
 refine ao ?_
 refine ab ?_
 refine ap (ai rfl) rfl rfl ?_
 refine ae ?_
 refine aj ?_
 refine aF ?_
 refine aJ (ts := [6]) rfl rfl rfl (fun w hw => ?_)
 obtain ⟨h1, h2, h3⟩ := (hw.weak (.cons _ (.cons_cons _ (.cons_cons _ .slnil))) (fun s hs => hs)).f1.f1.two.uc
 focus first
   | exact ⟨⟨(hm, Ah, ch), hI⟩, rfl, h1, h2, h3⟩
   | exact ⟨⟨(hm2, A0, c0), hI2⟩, rfl, h1, h2, h3⟩
   | (trace_state; fail)

theorem rd_mem {A A2 : Option Addr} {res res2 : List Rg} {S : List Ch} (h1 : A = A2) (h2 : res = res2) (h : Ch.rd A2 4 dR res2 ∈ S) : Ch.rd A 4 dR res ∈ S := by subst h1; subst h2; exact h
theorem sub4 {α : Type} {a b c d s : α} {S : List α} (ha : a ∈ S) (hb : b ∈ S) (hc : c ∈ S) (hd : d ∈ S) (h : s ∈ [a, b, c, d]) : s ∈ S := (List.mem_cons.1 h).elim (fun e => by rw [e]; exact ha) (sub3 hb hc hd)

set_option maxRecDepth 100000 in
set_option maxHeartbeats 4000000 in
theorem c_VipsScript (rg : Rg) (res : List Rg) (A : Option Addr) (c : Nat) (hr : RgOk rg) (hrs : ∀ x ∈ res, RgOk x) (hres : res.length ≤ 9223372036854775807) (acts : List Ac) (F : Option Addr) (fc : Nat) (hal : acts.length ≤ 9223372036854775807) (hab : ∀ a ∈ acts, AcOk a) : RC Tryz.prog 7 #[.agg (plC rg A res.length c).toArray, .slice F acts.length fc] [Ch.rd A 4 dR res, Ch.rd F 6 acC acts, Ch.rall (acts.flatMap acR)] (α := Unit) (fun _ => .bool true) (fun _ => []) := by
 refine bi (args := [.agg (plC rg A res.length c).toArray, .slice F acts.length fc]) 88 Tryz.func7 rfl rfl rfl (fun w0 => ?_)
 rcases Decidable.em (dn (rg :: res) = 0) with hT | hT
 have hz9 : cw rg = 0 := cks_head hT
 refine ao ?_
 refine ab ?_
 refine bE rfl rfl rfl (fun b1 => ?_)
 refine ap (ai rfl) rfl rfl ?_
 refine ae ?_
 refine aj ?_
 refine ao ?_
 refine ao ?_
 refine ab ?_
 refine aS rfl ent_30 c_lives14 rfl ?_
 refine bV (t := 11) (.bool true) rfl (congrArg Value.bool rfl) ?_
 refine ap (bJ rfl) rfl rfl ?_
 refine ae ?_
 refine aj ?_
 refine au rfl ?_
 refine aH ?_
 refine aj ?_
 refine ao ?_
 refine ao ?_
 refine ab ?_
 refine ap (aK 0 eU rfl rfl rfl rfl) rfl rfl ?_
 refine ap (ak rfl) rfl rfl ?_
 refine bv rfl ent_32 rfl (c_light14 rg res.length A c acts _ _ hr.1 hres hal) (fun w hw => (aQ (cI 1 rfl hw) (aQ (cI 2 rfl hw) bf))) ?_
 refine bk (t := 15) rfl (fun h3_2 => ?_) (fun h3_2 => ?_)
 obtain ⟨hl6, hl60, hac9⟩ := light_acts h3_2
 have hlb : res.length ≤ 4398046510976 := by omega
 refine ap (bJ rfl) rfl rfl ?_
 refine ae ?_
 refine aj ?_
 refine au rfl ?_
 refine aH ?_
 refine aj ?_
 refine ao ?_
 refine ab ?_
 refine ap (aK 0 eU rfl rfl rfl rfl) rfl rfl ?_
 refine o_callr3 rfl ent_31 rfl (c_vNew rg res A c hr hrs hlb hT) (fun w hw => (aQ (cI 0 rfl hw) bf)) (fun ⟨x, hx⟩ => ?_)
 refine cE (fun w h => h.f1.toRdV.f1.freeze) ?_
 refine ap (ak rfl) rfl rfl ?_
 refine ap (aI rfl rfl) rfl rfl ?_
 refine ap (aI rfl rfl) rfl rfl ?_
 refine ap (ai rfl) rfl rfl ?_
 refine ap (ai rfl) rfl rfl ?_
 refine ae ?_
 refine aj ?_
 refine ao ?_
 refine ab ?_
 refine ap (aK 1 eU rfl rfl rfl rfl) rfl rfl ?_
 refine i8 rfl ent_47 rfl (c_oNew rg res A c hr hrs hlb hT) (fun w hw => (aQ (cI 2 rfl hw) bf)) (fun ⟨o, ho⟩ => ?_)
 refine cE (fun w h => h.f1.toRdV) ?_
 have ev : vR o.rg o.res = vR rg res := by rw [ho.1, ho.2]
 refine ap (ak rfl) rfl rfl ?_
 refine ap (aI rfl rfl) rfl rfl ?_
 refine ap (aI rfl rfl) rfl rfl ?_
 refine ap (ai rfl) rfl rfl ?_
 refine ap (ai rfl) rfl rfl ?_
 refine ae ?_
 refine aj ?_
 refine ao ?_
 refine ao ?_
 refine ab ?_
 refine ap (ak rfl) rfl rfl ?_
 refine ap (ak rfl) rfl rfl ?_
 refine ap (cv rfl rfl) rfl rfl ?_
 refine e5 (t := 29) rfl (fun h => h rfl) ?_
 refine ap (ak rfl) rfl rfl ?_
 refine az rfl rfl ?_
 refine ap (ak rfl) rfl rfl ?_
 refine az rfl rfl ?_
 refine ap (eH Tryz.underlying68 rfl rfl) rfl rfl ?_
 refine bV (t := 32) (.bool false) rfl (congrArg Value.bool rfl) ?_
 refine az rfl rfl ?_
 refine ap (ak rfl) rfl rfl ?_
 refine az rfl rfl ?_
 refine ap (eH Tryz.underlying97 rfl rfl) rfl rfl ?_
 refine bV (t := 34) (.bool false) rfl (congrArg Value.bool rfl) ?_
 refine az rfl rfl ?_
 refine ap (y_neqb Tryz.underlying4 rfl rfl) rfl rfl ?_
 refine e5 (t := 35) rfl (fun h => h rfl) ?_
 refine ap (aW rfl rfl) rfl rfl ?_
 refine ap (ak rfl) rfl rfl ?_
 refine az rfl rfl ?_
 refine ap (aK 2 eU rfl rfl rfl rfl) rfl rfl ?_
 refine az rfl rfl ?_
 refine bv rfl ent_43 rfl (i6 rg res A c hr hrs hlb) (fun w hw => (aQ (cI 3 rfl hw) bf)) ?_
 refine az rfl rfl ?_
 refine ap (ak rfl) rfl rfl ?_
 refine az rfl rfl ?_
 refine ap (cv rfl rfl) rfl rfl ?_
 refine e5 (t := 41) rfl (fun h => h hT) ?_
 refine ap (aW rfl rfl) rfl rfl ?_
 refine ae ?_
 refine aj ?_
 refine au rfl ?_
 refine aH ?_
 refine aj ?_
 refine ao ?_
 refine ao ?_
 refine ab ?_
 refine ap (ak rfl) rfl rfl ?_
 refine ap (eH Tryz.underlying97 rfl rfl) rfl rfl ?_
 refine bV (t := 44) (.bool false) rfl (congrArg Value.bool rfl) ?_
 refine ae ?_
 refine aj ?_
 refine au rfl ?_
 refine aH ?_
 refine aj ?_
 refine ao ?_
 refine ao ?_
 refine ab ?_
 refine ap (ai rfl) rfl rfl ?_
 refine ae ?_
 refine aj ?_
 refine aP ?_
 refine cH (fun w h => (h.weak (.cons_cons _ (.cons_cons _ (.cons_cons _ .slnil))) (fun s hs => (List.forall_mem_cons.2 ⟨(List.mem_of_getElem? (i := 1) rfl), List.forall_mem_cons.2 ⟨(List.mem_of_getElem? (i := 2) rfl), List.forall_mem_cons.2 ⟨(List.mem_of_getElem? (i := 0) rfl), List.forall_mem_cons.2 ⟨(List.mem_of_getElem? (i := 3) rfl), List.forall_mem_cons.2 ⟨(List.mem_of_getElem? (i := 4) rfl), List.forall_mem_cons.2 ⟨(List.mem_of_getElem? (i := 5) rfl), List.forall_mem_nil _⟩⟩⟩⟩⟩⟩ : ∀ s ∈ _, s ∈ _) s hs)).f2.f1.f2) ?_
 refine w_loop (σ := Nat × Vp × Hm × Option Addr × Nat) [4, 5, 9, 10, 45, 46, 47, 48, 49, 50, 51, 52, 53, 54, 55, 56, 57, 58, 59, 60, 61, 62, 63, 64, 65, 66, 67, 68, 69, 70, 71, 72, 73, 74, 75, 76, 77, 78, 79, 80, 81, 82, 83, 84, 85, 86, 87] (fun q => q.1 ≤ acts.length ∧ (q.2.1.rg = rg ∧ q.2.1.res = res ∧ q.2.1.room = dv rg res) ∧ q.2.1.A = x.A ∧ HInv (vR rg res) q.2.2.1) (fun q => acts.length - q.1) (fun q => [(9, .int .i64 q.1), (5, .pointer (some ⟨q.2.1.b, 0, none⟩))]) (fun q => [vmC q.2.1 q.2.2.1 (bw q.2.2.1), rpCh o q.2.2.2.1 q.2.2.2.2 (cj q.2.2.1), Ch.row b1 (plC rg A res.length c) 67]) (fun q => [Ch.row q.2.1.b (vpC q.2.1) 146, Ch.rd x.A 4 dR x.res, Ch.rd o.A 4 dR o.res, Ch.rd A 4 dR res, Ch.rd F 6 acC acts, Ch.rall (acts.flatMap acR)]) (0, x, [], none, 0) ?_ ⟨rfl, rfl, trivial⟩ aw (fun q hI => ?_)
 exact ⟨Nat.zero_le _, hx, rfl, HInv.nil⟩
 obtain ⟨i, y, hm, Ah, ch⟩ := q
 dsimp only at hI ⊢
 refine ao ?_
 refine ao ?_
 refine ab ?_
 refine ap (ak rfl) rfl rfl ?_
 refine ap (ak rfl) rfl rfl ?_
 refine ap (bM Tryz.underlying86 rfl) rfl rfl ?_
 refine ap (bF rfl rfl) rfl rfl ?_
 refine aC (t := 48) rfl (fun h12_3 => ?_) (fun h12_3 => ?_)
 have hi : i < acts.length := by omega
 have hiA := bX (d := ff) hi
 obtain ⟨-, hy, hyA, hIh⟩ := hI
 refine ae ?_
 refine aj ?_
 refine ay rfl ?_
 refine aH ?_
 refine aj ?_
 refine ao ?_
 refine aP ?_
 refine ao ?_
 refine ao ?_
 refine ab ?_
 refine ap (ak rfl) rfl rfl ?_
 refine ap (ak rfl) rfl rfl ?_
 refine ap (bP  Tryz.underlying86 iW rfl rfl (bY 4 rfl) rfl (by omega)) rfl rfl ?_
 refine ap (aB fa_85_0 rfl) rfl rfl ?_
 refine ap (cG gM ff eW rfl (bY 4 rfl) (by omega) rfl rfl) rfl rfl ?_
 refine aS rfl ent_48 (c_kit_Pick _ _ (by decide) (by decide)) rfl ?_
 refine ap (dB rfl rfl) rfl rfl ?_
 refine aC (t := 57) rfl (fun h14_6 => ?_) (fun h14_6 => ?_)
 refine ae ?_
 refine aj ?_
 refine ay rfl ?_
 refine ao ?_
 refine ab ?_
 refine ap (ak rfl) rfl rfl ?_
 refine i8 rfl ent_40 rfl (c_vClone y hm (bw hm)) (fun w hw => (aQ (cI 0 rfl hw) (aQ (dT (dL 0 rfl hw)) (aQ (fA (dL 0 rfl hw)) bf)))) (fun ⟨u, hu⟩ => ?_)
 refine cE (fun w h => h.f1.freeze) ?_
 have hu9 : u.rg = rg ∧ u.res = res ∧ u.room = dv rg res := ⟨hu.1.trans hy.1, hu.2.1.trans hy.2.1, hu.2.2.2.2.trans hy.2.2⟩
 have huA : u.A = x.A := hu.2.2.1.trans hyA
 refine ap (ai rfl) rfl rfl ?_
 refine ae ?_
 refine aj ?_
 refine ao ?_
 refine cH (fun w h => (h.nilsl 26 1).toRdV (enc := dw) (xs := ([] : List aV))) ?_
 refine ab ?_
 refine ap (ak rfl) rfl rfl ?_
 refine cu rfl ent_41 rfl (c_kE hy hr hrs hlb (keep_nil _ hm) none 0 hIh.inv (by have := iS hIh; show hm.length + 0 ≤ _; omega) nofun) (fun o => (.s (.z))) (List.mem_of_getElem? (i := 1) rfl) (fun s hs => sub3 (List.mem_of_getElem? (i := 2) rfl) (rd_mem hyA (hy.2.1.trans hx.2.1.symm) (List.mem_of_getElem? (i := 3) rfl)) (List.mem_of_getElem? (i := 0) rfl) hs) (fun ⟨Az, cz⟩ => ?_)
 refine ae ?_
 refine aj ?_
 refine ao ?_
 refine ab ?_
 refine ap (ak rfl) rfl rfl ?_
 refine ap (ai rfl) rfl rfl ?_
 refine ae ?_
 refine aj ?_
 refine ao ?_
 refine ab ?_
 refine ap (ak rfl) rfl rfl ?_
 refine ap (eH Tryz.underlying68 rfl rfl) rfl rfl ?_
 refine bV (t := 64) (.bool false) rfl (congrArg Value.bool rfl) ?_
 refine ae ?_
 refine aj ?_
 refine au rfl ?_
 refine aH ?_
 refine aj ?_
 refine ao ?_
 refine cH (fun w h => h.memS (List.mem_of_getElem? (i := 7) rfl) (List.mem_flatMap.2 ⟨_, hiA, .head _⟩)) ?_
 refine ab ?_
 refine ap (ak rfl) rfl rfl ?_
 refine ap (ak rfl) rfl rfl ?_
 refine ap (ak rfl) rfl rfl ?_
 refine ap (ak rfl) rfl rfl ?_
 refine ap (bP  Tryz.underlying86 iW rfl rfl (bY 7 rfl) rfl (by omega)) rfl rfl ?_
 refine ap (dV gM ff iW rfl (bY 7 rfl) (by omega) rfl rfl rfl) rfl rfl ?_
 refine cE (fun w h => h.f2.f1.two) ?_
 refine cu rfl ent_49 rfl (c_does u o Ah ch hm (acts.getD i ff) (by rw [ho.1, ho.2]; exact hu9) (by rw [ev]; exact hIh) (by rw [ho.1]; exact hr) (by rw [ho.1]; exact hz9) (by rw [ho.2]; exact hrs) (by rw [ho.2]; exact hlb) (hab _ hiA) (hac9 _ hiA)) (fun o => .z) (List.mem_of_getElem? (i := 0) rfl) (fun s hs => sub4 (List.mem_of_getElem? (i := 2) rfl) (rd_mem huA (hu9.2.1.trans hx.2.1.symm) (List.mem_of_getElem? (i := 4) rfl)) (List.mem_of_getElem? (i := 5) rfl) (List.mem_of_getElem? (i := 0) rfl) hs) (fun ⟨⟨hm3, A9, c9⟩, hI3⟩ => ?_)
 refine cE (fun w h => h.untwo) ?_
 have hI3 : HInv (vR o.rg o.res) hm3 := hI3
 have hml3 : hm3.length ≤ 1000000 := by have := iS hI3; omega
 refine bV (t := 71) (.bool true) rfl (congrArg Value.bool rfl) ?_
 refine ap (bJ rfl) rfl rfl ?_
 refine ap (ak rfl) rfl rfl ?_
 refine az rfl rfl ?_
 refine ap (ak rfl) rfl rfl ?_
 refine az rfl rfl ?_
 refine co rfl ent_36 rfl (c_vAll u hm3 hml3) (fun w hw => (aQ (cI 2 rfl hw) (aQ (dT (dL 0 rfl hw)) bf))) (fun ⟨⟨o1, Ao1, co1⟩, ho1⟩ => ?_)
 refine az rfl rfl ?_
 refine ap (ak rfl) rfl rfl ?_
 refine az rfl rfl ?_
 refine co rfl ent_50 rfl (c_oAll o A9 c9 hm3 hml3) (fun w hw => (aQ (dT (dL 2 rfl hw)) (aQ (fb (fA (dL 2 rfl hw))) bf))) (fun ⟨⟨o2, Ao2, co2⟩, ho2⟩ => ?_)
 refine az rfl rfl ?_
 refine bv rfl ent_42 rfl (hB o1 o2 _ _ _ _ (by rw [perm_len ho1.1]; omega)) (fun w hw => (aQ (eF 1 rfl hw) (aQ (eF 0 rfl hw) bf))) ?_
 refine bV (t := 78) (.bool true) rfl (congrArg Value.bool (decide_eq_true (all_same hI3.inv ho1 ho2))) ?_
 refine az rfl rfl ?_
 refine ap (bJ rfl) rfl rfl ?_
 refine ap (aW rfl rfl) rfl rfl ?_
 refine ap (ak rfl) rfl rfl ?_
 refine az rfl rfl ?_
 refine ap (ak rfl) rfl rfl ?_
 refine az rfl rfl ?_
 refine bv rfl ent_35 rfl (c_vFree u hm3 (new_ok hr hrs hlb hu9) hml3) (fun w hw => (aQ (cI 2 rfl hw) (aQ (dT (dL 2 rfl hw)) bf))) ?_
 refine az rfl rfl ?_
 refine ap (ak rfl) rfl rfl ?_
 refine az rfl rfl ?_
 refine bv rfl ent_51 rfl (c_oFree o A9 c9 hm3 (by rw [ho.1]; exact hr) (by rw [ho.2]; exact hrs) (by rw [ho.2]; exact hlb) hml3) (fun w hw => (aQ (dT (dL 3 rfl hw)) (aQ (fb (fA (dL 3 rfl hw))) (aQ (cI 5 rfl hw) bf)))) ?_
 refine az rfl rfl ?_
 refine ap (cv rfl rfl) rfl rfl ?_
 refine e5 (t := 86) rfl (fun h => h (by rw [hu9.2.2, cK, ho.1, ho.2])) ?_
 refine ap (aW rfl rfl) rfl rfl ?_
 refine ae ?_
 refine aj ?_
 refine au rfl ?_
 refine aH ?_
 refine bq ?_
 refine aj ?_
 refine ab ?_
 refine ap (ak rfl) rfl rfl ?_
 refine ap (bg rfl rfl (by omega) (by omega)) rfl rfl ?_
 refine ap (ai rfl) rfl rfl ?_
 refine ae ?_
 refine bo ((i + 1, u, hm3, A9, c9)) ?_ ?_ ⟨rfl, rfl, trivial⟩ (by repeat (first | exact trivial | refine ⟨rfl, ?_⟩)) (fun w h => (h.weak (.cons _ (.cons _ (.cons_cons _ (.cons_cons _ (.cons _ (.cons_cons _ .slnil)))))) (fun s hs => (List.forall_mem_cons.2 ⟨(List.mem_of_getElem? (i := 2) rfl), List.forall_mem_cons.2 ⟨(List.mem_of_getElem? (i := 4) rfl), List.forall_mem_cons.2 ⟨(List.mem_of_getElem? (i := 5) rfl), List.forall_mem_cons.2 ⟨(List.mem_of_getElem? (i := 6) rfl), List.forall_mem_cons.2 ⟨(List.mem_of_getElem? (i := 7) rfl), List.forall_mem_cons.2 ⟨(List.mem_of_getElem? (i := 8) rfl), List.forall_mem_nil _⟩⟩⟩⟩⟩⟩ : ∀ s ∈ _, s ∈ _) s hs)).f2.f2.f2)
 exact ⟨by show i + 1 ≤ _; omega, hu9, huA, by rw [← ev]; exact hI3⟩
 show acts.length - (i + 1) < acts.length - i
 omega
 refine ae ?_
 refine aj ?_
 refine au rfl ?_
 refine aH ?_
 refine aj ?_
 refine ao ?_
 refine cH (fun w h => h.memS (List.mem_of_getElem? (i := 5) rfl) (List.mem_flatMap.2 ⟨_, hiA, .head _⟩)) ?_
 refine ab ?_
 refine ap (ak rfl) rfl rfl ?_
 refine ap (ak rfl) rfl rfl ?_
 refine ap (ak rfl) rfl rfl ?_
 refine ap (ak rfl) rfl rfl ?_
 refine ap (bP  Tryz.underlying86 iW rfl rfl (bY 5 rfl) rfl (by omega)) rfl rfl ?_
 refine ap (dV gM ff iW rfl (bY 5 rfl) (by omega) rfl rfl rfl) rfl rfl ?_
 refine cE (fun w h => h.f1.f1.two) ?_
 refine cu rfl ent_49 rfl (c_does y o Ah ch hm (acts.getD i ff) (by rw [ho.1, ho.2]; exact hy) (by rw [ev]; exact hIh) (by rw [ho.1]; exact hr) (by rw [ho.1]; exact hz9) (by rw [ho.2]; exact hrs) (by rw [ho.2]; exact hlb) (hab _ hiA) (hac9 _ hiA)) (fun o => .z) (List.mem_of_getElem? (i := 0) rfl) (fun s hs => sub4 (List.mem_of_getElem? (i := 1) rfl) (rd_mem hyA (hy.2.1.trans hx.2.1.symm) (List.mem_of_getElem? (i := 2) rfl)) (List.mem_of_getElem? (i := 3) rfl) (List.mem_of_getElem? (i := 0) rfl) hs) (fun ⟨⟨hm3, A9, c9⟩, hI3⟩ => ?_)
 refine cE (fun w h => h.untwo) ?_
 have hI3 : HInv (vR o.rg o.res) hm3 := hI3
 have hml3 : hm3.length ≤ 1000000 := by have := iS hI3; omega
 refine bV (t := 71) (.bool true) rfl (congrArg Value.bool rfl) ?_
 refine ap (bJ rfl) rfl rfl ?_
 refine ap (ak rfl) rfl rfl ?_
 refine az rfl rfl ?_
 refine ap (ak rfl) rfl rfl ?_
 refine az rfl rfl ?_
 refine co rfl ent_36 rfl (c_vAll y hm3 hml3) (fun w hw => (aQ (cI 1 rfl hw) (aQ (dT (dL 0 rfl hw)) bf))) (fun ⟨⟨o1, Ao1, co1⟩, ho1⟩ => ?_)
 refine az rfl rfl ?_
 refine ap (ak rfl) rfl rfl ?_
 refine az rfl rfl ?_
 refine co rfl ent_50 rfl (c_oAll o A9 c9 hm3 hml3) (fun w hw => (aQ (dT (dL 2 rfl hw)) (aQ (fb (fA (dL 2 rfl hw))) bf))) (fun ⟨⟨o2, Ao2, co2⟩, ho2⟩ => ?_)
 refine az rfl rfl ?_
 refine bv rfl ent_42 rfl (hB o1 o2 _ _ _ _ (by rw [perm_len ho1.1]; omega)) (fun w hw => (aQ (eF 1 rfl hw) (aQ (eF 0 rfl hw) bf))) ?_
 refine bV (t := 78) (.bool true) rfl (congrArg Value.bool (decide_eq_true (all_same hI3.inv ho1 ho2))) ?_
 refine az rfl rfl ?_
 refine ap (bJ rfl) rfl rfl ?_
 refine ap (aW rfl rfl) rfl rfl ?_
 refine ap (ak rfl) rfl rfl ?_
 refine az rfl rfl ?_
 refine ap (ak rfl) rfl rfl ?_
 refine az rfl rfl ?_
 refine bv rfl ent_35 rfl (c_vFree y hm3 (new_ok hr hrs hlb hy) hml3) (fun w hw => (aQ (cI 1 rfl hw) (aQ (dT (dL 2 rfl hw)) bf))) ?_
 refine az rfl rfl ?_
 refine ap (ak rfl) rfl rfl ?_
 refine az rfl rfl ?_
 refine bv rfl ent_51 rfl (c_oFree o A9 c9 hm3 (by rw [ho.1]; exact hr) (by rw [ho.2]; exact hrs) (by rw [ho.2]; exact hlb) hml3) (fun w hw => (aQ (dT (dL 3 rfl hw)) (aQ (fb (fA (dL 3 rfl hw))) (aQ (cI 3 rfl hw) bf)))) ?_
 refine az rfl rfl ?_
 refine ap (cv rfl rfl) rfl rfl ?_
 refine e5 (t := 86) rfl (fun h => h (by rw [hy.2.2, cK, ho.1, ho.2])) ?_
 refine ap (aW rfl rfl) rfl rfl ?_
 refine ae ?_
 refine aj ?_
 refine au rfl ?_
 refine aH ?_
 refine bq ?_
 refine aj ?_
 refine ab ?_
 refine ap (ak rfl) rfl rfl ?_
 refine ap (bg rfl rfl (by omega) (by omega)) rfl rfl ?_
 refine ap (ai rfl) rfl rfl ?_
 refine ae ?_
 refine bo ((i + 1, y, hm3, A9, c9)) ?_ ?_ ⟨rfl, rfl, trivial⟩ (by repeat (first | exact trivial | refine ⟨rfl, ?_⟩)) (fun w h => (h.weak (.cons _ (.cons _ (.cons_cons _ (.cons_cons _ (.cons_cons _ .slnil))))) (fun s hs => (List.forall_mem_cons.2 ⟨(List.mem_of_getElem? (i := 1) rfl), List.forall_mem_cons.2 ⟨(List.mem_of_getElem? (i := 2) rfl), List.forall_mem_cons.2 ⟨(List.mem_of_getElem? (i := 3) rfl), List.forall_mem_cons.2 ⟨(List.mem_of_getElem? (i := 4) rfl), List.forall_mem_cons.2 ⟨(List.mem_of_getElem? (i := 5) rfl), List.forall_mem_cons.2 ⟨(List.mem_of_getElem? (i := 6) rfl), List.forall_mem_nil _⟩⟩⟩⟩⟩⟩ : ∀ s ∈ _, s ∈ _) s hs)).f2.f2.f2)
 exact ⟨by show i + 1 ≤ _; omega, hy, hyA, by rw [← ev]; exact hI3⟩
 show acts.length - (i + 1) < acts.length - i
 omega
 refine ae ?_
 refine aj ?_
 refine au rfl ?_
 refine bC ?_
 refine aY ?_
 refine aU ?_
 refine a8 ?_
 refine aj ?_
 refine ao ?_
 refine ab ?_
 refine ap (ai rfl) rfl rfl ?_
 refine ae ?_
 refine aj ?_
 refine aF ?_
 refine aJ (ts := [4]) rfl rfl rfl (fun w hw => ?_)
 exact ⟨(), rfl, hw.base, (hw.weak (List.nil_sublist _) (fun s hs => hs)).toNews⟩
 refine ap (bJ rfl) rfl rfl ?_
 refine ae ?_
 refine aj ?_
 refine ay rfl ?_
 refine ao ?_
 refine ab ?_
 refine ap (ai rfl) rfl rfl ?_
 refine ae ?_
 refine aj ?_
 refine aF ?_
 refine aA ?_
 refine aJ (ts := [4]) rfl rfl rfl (fun w hw => ?_)
 exact ⟨(), rfl, hw.base, (hw.weak (List.nil_sublist _) (fun s hs => hs)).toNews⟩
 refine ao ?_
 refine ab ?_
 refine bE rfl rfl rfl (fun b12 => ?_)
 refine ap (ai rfl) rfl rfl ?_
 refine ae ?_
 refine aj ?_
 refine ao ?_
 refine ao ?_
 refine ab ?_
 refine aS rfl ent_30 c_lives14 rfl ?_
 refine bV (t := 11) (.bool true) rfl (congrArg Value.bool rfl) ?_
 refine ap (bJ rfl) rfl rfl ?_
 refine ae ?_
 refine aj ?_
 refine au rfl ?_
 refine aH ?_
 refine aj ?_
 refine ao ?_
 refine ao ?_
 refine ab ?_
 refine ap (aK 0 eU rfl rfl rfl rfl) rfl rfl ?_
 refine ap (ak rfl) rfl rfl ?_
 refine bv rfl ent_32 rfl (c_light14 rg res.length A c acts _ _ hr.1 hres hal) (fun w hw => (aQ (cI 1 rfl hw) (aQ (cI 2 rfl hw) bf))) ?_
 refine bk (t := 15) rfl (fun h3_2 => ?_) (fun h3_2 => ?_)
 obtain ⟨hl6, hl60, hac9⟩ := light_acts h3_2
 have hlb : res.length ≤ 4398046510976 := by omega
 refine ap (bJ rfl) rfl rfl ?_
 refine ae ?_
 refine aj ?_
 refine au rfl ?_
 refine aH ?_
 refine aj ?_
 refine ao ?_
 refine ab ?_
 refine ap (aK 0 eU rfl rfl rfl rfl) rfl rfl ?_
 refine bv rfl ent_31 rfl (c_vNewbad rg res A c hr hrs hlb hT) (fun w hw => (aQ (cI 0 rfl hw) bf)) ?_
 refine ap (ak rfl) rfl rfl ?_
 refine ap (aI rfl rfl) rfl rfl ?_
 refine ap (aI rfl rfl) rfl rfl ?_
 refine ap (ai rfl) rfl rfl ?_
 refine ap (ai rfl) rfl rfl ?_
 refine ae ?_
 refine aj ?_
 refine ao ?_
 refine ab ?_
 refine ap (aK 0 eU rfl rfl rfl rfl) rfl rfl ?_
 refine bv rfl ent_47 rfl (c_oNewbad rg res A c hr hrs hlb hT) (fun w hw => (aQ (cI 0 rfl hw) bf)) ?_
 refine ap (ak rfl) rfl rfl ?_
 refine ap (aI rfl rfl) rfl rfl ?_
 refine ap (aI rfl rfl) rfl rfl ?_
 refine ap (ai rfl) rfl rfl ?_
 refine ap (ai rfl) rfl rfl ?_
 refine ae ?_
 refine aj ?_
 refine ao ?_
 refine ao ?_
 refine ab ?_
 refine ap (ak rfl) rfl rfl ?_
 refine ap (ak rfl) rfl rfl ?_
 refine ap (cv rfl rfl) rfl rfl ?_
 refine e5 (t := 29) rfl (fun h => h rfl) ?_
 refine ap (ak rfl) rfl rfl ?_
 refine az rfl rfl ?_
 refine ap (ak rfl) rfl rfl ?_
 refine az rfl rfl ?_
 refine ap (eH Tryz.underlying68 rfl rfl) rfl rfl ?_
 refine bV (t := 32) (.bool true) rfl (congrArg Value.bool rfl) ?_
 refine az rfl rfl ?_
 refine ap (ak rfl) rfl rfl ?_
 refine az rfl rfl ?_
 refine ap (eH Tryz.underlying97 rfl rfl) rfl rfl ?_
 refine bV (t := 34) (.bool true) rfl (congrArg Value.bool rfl) ?_
 refine az rfl rfl ?_
 refine ap (y_neqb Tryz.underlying4 rfl rfl) rfl rfl ?_
 refine e5 (t := 35) rfl (fun h => h rfl) ?_
 refine ap (aW rfl rfl) rfl rfl ?_
 refine ap (ak rfl) rfl rfl ?_
 refine az rfl rfl ?_
 refine ap (aK 0 eU rfl rfl rfl rfl) rfl rfl ?_
 refine az rfl rfl ?_
 refine bv rfl ent_43 rfl (i6 rg res A c hr hrs hlb) (fun w hw => (aQ (cI 0 rfl hw) bf)) ?_
 refine az rfl rfl ?_
 refine ap (ak rfl) rfl rfl ?_
 refine az rfl rfl ?_
 refine ap (cv rfl rfl) rfl rfl ?_
 refine e5 (t := 41) rfl (fun h => h rfl) ?_
 refine ap (aW rfl rfl) rfl rfl ?_
 refine ae ?_
 refine aj ?_
 refine au rfl ?_
 refine aH ?_
 refine aj ?_
 refine ao ?_
 refine ao ?_
 refine ab ?_
 refine ap (ak rfl) rfl rfl ?_
 refine ap (eH Tryz.underlying97 rfl rfl) rfl rfl ?_
 refine bV (t := 44) (.bool true) rfl (congrArg Value.bool rfl) ?_
 refine ae ?_
 refine aj ?_
 refine ay rfl ?_
 refine ao ?_
 refine ab ?_
 refine ap (ai rfl) rfl rfl ?_
 refine ae ?_
 refine aj ?_
 refine aF ?_
 refine aA ?_
 refine aJ (ts := [4]) rfl rfl rfl (fun w hw => ?_)
 exact ⟨(), rfl, hw.base, (hw.weak (List.nil_sublist _) (fun s hs => hs)).toNews⟩
 refine ap (bJ rfl) rfl rfl ?_
 refine ae ?_
 refine aj ?_
 refine ay rfl ?_
 refine ao ?_
 refine ab ?_
 refine ap (ai rfl) rfl rfl ?_
 refine ae ?_
 refine aj ?_
 refine aF ?_
 refine aA ?_
 refine aJ (ts := [4]) rfl rfl rfl (fun w hw => ?_)
 exact ⟨(), rfl, hw.base, (hw.weak (List.nil_sublist _) (fun s hs => hs)).toNews⟩

theorem dc_ac {w : World} : Dc Tryz.prog w 85 (α := Ac) (acC) (acR) (AcOk) := fun H enc base sp hd fuel cs x h => by
  obtain ⟨xs, n, rfl, _, hcl, hxl, hf⟩ := DataW.trod_struct Tryz.underlying85 h
  have hcl2 : cs.length = 6 := hcl.trans (by kernel_rfl)
  obtain ⟨x0, c0, r0, o0⟩ := dI hxl hf 0 (ft := 3) (off := 0) (k := 1) (by kernel_rfl) (by kernel_rfl) (dc_int Tryz.underlying3)
  obtain ⟨x1, c1, r1, o1⟩ := dI hxl hf 1 (ft := 26) (off := 1) (k := 1) (by kernel_rfl) (by kernel_rfl) (dc_str Tryz.underlying26)
  obtain ⟨⟨x2, P, pc⟩, c2, r2, o2⟩ := dI hxl hf 2 (ft := 59) (off := 2) (k := 1) (by kernel_rfl) (by kernel_rfl) dc_names
  obtain ⟨x3, c3, r3, o3⟩ := dI hxl hf 3 (ft := 29) (off := 3) (k := 3) (by kernel_rfl) (by kernel_rfl) dc_ad
  have hcs := cut0 (cutc c0 (cutc c1 (cutc c2 (cutc c3 (cutn hcl2) rfl) rfl) rfl) rfl)
  exact ⟨⟨x0, x1, x2, P, pc, x3⟩, hcs, aQ (r2 _ List.mem_cons_self) nofun, o0.1, o0.2, o3, o1, o2.1, o2.2⟩

theorem dc_acs {w : World} : Dc Tryz.prog w 86 (fun p : List Ac × Option Addr × Nat => [.slice p.2.1 p.1.length p.2.2]) (fun p => Ch.rd p.2.1 6 acC p.1 :: p.1.flatMap acR) (fun p => p.1.length ≤ 9223372036854775807 ∧ ∀ a ∈ p.1, AcOk a) := dc_slice Tryz.underlying86 (by kernel_rfl) (by decide) gM dc_ac

end Go.Proofs.YtnpdgmoeoidppaaGreat
