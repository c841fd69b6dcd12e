import Derived.Test.YtnpdgmoeoidppaaGreatJlQa
/- the laws of an index: the calls -/
namespace Go.Proofs.YtnpdgmoeoidppaaGreat
open Go.RowKit Go.Shelf
set_option linter.unusedVariables false
set_option linter.unusedSimpArgs false

theorem ent_10 : Enters Tryz.prog 10 := enters_of Tryz.func10 (by kernel_rfl) rfl
theorem ent_11 : Enters Tryz.prog 11 := enters_of Tryz.func11 (by kernel_rfl) rfl
theorem ent_14 : Enters Tryz.prog 14 := enters_of Tryz.func14 (by kernel_rfl) rfl
theorem ent_15 : Enters Tryz.prog 15 := enters_of Tryz.func15 (by kernel_rfl) rfl
theorem ent_16 : Enters Tryz.prog 16 := enters_of Tryz.func16 (by kernel_rfl) rfl
theorem ent_18 : Enters Tryz.prog 18 := enters_of Tryz.func18 (by kernel_rfl) rfl
theorem ent_19 : Enters Tryz.prog 19 := enters_of Tryz.func19 (by kernel_rfl) rfl
theorem ent_20 : Enters Tryz.prog 20 := enters_of Tryz.func20 (by kernel_rfl) rfl
theorem ent_21 : Enters Tryz.prog 21 := enters_of Tryz.func21 (by kernel_rfl) rfl
theorem ent_23 : Enters Tryz.prog 23 := enters_of Tryz.func23 (by kernel_rfl) rfl
theorem ent_24 : Enters Tryz.prog 24 := enters_of Tryz.func24 (by kernel_rfl) rfl
theorem ent_26 : Enters Tryz.prog 26 := enters_of Tryz.func26 (by kernel_rfl) rfl
theorem ent_27 : Enters Tryz.prog 27 := enters_of Tryz.func27 (by kernel_rfl) rfl
theorem ent_28 : Enters Tryz.prog 28 := enters_of Tryz.func28 (by kernel_rfl) rfl
theorem ent_29 : Enters Tryz.prog 29 := enters_of Tryz.func29 (by kernel_rfl) rfl
theorem ent_9 : Enters Tryz.prog 9 := enters_of Tryz.func9 (by kernel_rfl) rfl

def rfP : Option (Nat × Option Addr × Nat) → Option Addr
  | some p => some ⟨p.1, 0, none⟩
  | none => none
def rfE : Option (Nat × Option Addr × Nat) → Int
  | some _ => 0
  | none => 2
theorem rfV_pe (o : Option (Nat × Option Addr × Nat)) : rfV o = .tuple #[.pointer (rfP o), .int .i64 (rfE o)] := by cases o <;> rfl
theorem rfP_yes {o : Option (Nat × Option Addr × Nat)} (h : (rfP o).isNone = false) : ∃ b Q q, o = some (b, Q, q) := by
  cases o with
  | none => cases h
  | some p => exact ⟨p.1, p.2.1, p.2.2, rfl⟩
theorem ix_some18 {es : List En} {hs : List Hd} {o : Option Ixd} (n1 : o = none → ¬ bU es hs) (h : bU es hs) : ∃ x, o = some x := by
  cases o with
  | none => exact absurd h (n1 rfl)
  | some x => exact ⟨x, rfl⟩
theorem ixrf {es : List En} {hs : List Hd} {o : Option Ixd} {r : Option (Nat × Option Addr × Nat)} (n1 : o = none → ¬ bU es hs) (y1 : ∀ x, o = some x → bU es hs) (n2 : r = none → ¬ bU es hs) (y2 : r ≠ none → bU es hs) : ixE o = rfE r ∧ (ixP o).isNone = (rfP r).isNone := by
  cases o with
  | none =>
    cases r with
    | none => exact ⟨rfl, rfl⟩
    | some p => exact absurd (y2 nofun) (n1 rfl)
  | some x =>
    cases r with
    | none => exact absurd (y1 x rfl) (n2 rfl)
    | some p => exact ⟨rfl, rfl⟩
theorem IxOk2.to {l lo : List Le} {hs : List Hd} {x : Ixd} (h : IxOk2 lo hs x) (e : lo.map (·.e) = l.map (·.e)) : IxOk2 l hs x := ⟨⟨h.ix.es.trans e, h.ix.hm⟩, h.dm, h.am⟩
theorem spec_mem {l : List Le} {n : bf} {r : Option Le} (h : iT l n r) : r.getD br ∈ br :: l := by
  cases r with
  | none => exact .head _
  | some y => exact .tail _ h.1

theorem c_Own_hd (l : List Hd) (A : Option Addr) (c : Nat) (hl : l.length ≤ 1000000) : RC Tryz.prog 15 #[.slice A l.length c] [Ch.rd A 4 hdC l] (α := Option Addr × Nat) (fun p => .slice p.1 l.length p.2) (fun p => [Ch.ls p.1 p.2 46 4 hdC l]) := by
 refine bx (args := [.slice A l.length c]) 6 Tryz.func15 rfl rfl rfl (fun w0 => ?_)
 refine ar ?_
 refine ai ?_
 refine au (ao rfl) rfl rfl ?_
 refine ah ?_
 refine aq ?_
 refine ar ?_
 refine ai ?_
 refine cD (vs := []) (([] : List Hd) : List (Hd)) eU Tryz.underlying25 e7 rfl rfl rfl rfl rfl rfl (fun As1 => ?_)
 refine au (ap rfl) rfl rfl ?_
 refine cC (enc := hdC) (sz := 4) l Tryz.underlying25 e7 rfl rfl rfl (fun A c => .z) (ic 0 Tryz.underlying25 rfl) (by simp only [List.length_cons, List.length_nil, Nat.zero_add]; omega) (by simp only [List.length_cons, List.length_nil, Nat.zero_add]; omega) rfl (fun A1 c1 => ?_)
 refine au (ao rfl) rfl rfl ?_
 refine ah ?_
 refine aq ?_
 refine aQ ?_
 refine aV (ts := [2]) rfl rfl rfl (fun w hw => ?_)
 exact ⟨(A1, c1), rfl, hw.base, (hw.weak (.cons_cons _ .slnil) (fun s hs => hs)).toNews⟩

set_option maxRecDepth 100000 in
set_option maxHeartbeats 4000000 in
theorem c_IndexCalls (v : Int) (l : List Le) (F : Option Addr) (d : Nat) (hs : List Hd) (Q : Option Addr) (qc : Nat) (n : bf) (a : Ad) (y : Le) (hnl : n.length ≤ 9223372036854775807) (hen : ∀ x ∈ l, EnOk x.e) (hll : l.length ≤ 9223372036854775807) (hhen : ∀ h ∈ hs, h.host.length ≤ 9223372036854775807 ∧ AdOk h.ad) (hhl : hs.length ≤ 9223372036854775807) (hey : y.e.host.length ≤ 9223372036854775807) : RC Tryz.prog 3 #[.agg (iM v F l.length d).toArray, .slice Q hs.length qc, .string (ba n), .agg (dT a).toArray, .agg (dB y).toArray] [Ch.rd F 7 dB l, Ch.rall (l.flatMap e6), Ch.rd Q 4 hdC hs] (α := Unit) (fun _ => .bool true) (fun _ => []) := by
 refine bx (args := [.agg (iM v F l.length d).toArray, .slice Q hs.length qc, .string (ba n), .agg (dT a).toArray, .agg (dB y).toArray]) 146 Tryz.func3 rfl rfl rfl (fun w0 => ?_)
 rcases Decidable.em (bO v l = 0) with hT | hT
 refine ar ?_
 refine ai ?_
 refine cv rfl rfl rfl (fun b1 => ?_)
 refine cv rfl rfl rfl (fun b2 => ?_)
 refine cv rfl rfl rfl (fun b3 => ?_)
 refine au (ao rfl) rfl rfl ?_
 refine ah ?_
 refine aq ?_
 refine ar ?_
 refine ar ?_
 refine ai ?_
 refine bb rfl ent_9 c_lives18 rfl ?_
 refine cU (t := 25) (.bool true) rfl (congrArg Value.bool rfl) ?_
 refine au (bC rfl) rfl rfl ?_
 refine ah ?_
 refine aq ?_
 refine aC rfl ?_
 refine aS ?_
 refine aq ?_
 refine ar ?_
 refine ar ?_
 refine ai ?_
 refine au (aD cw rfl) rfl rfl ?_
 refine au (aM 2 bZ rfl rfl rfl) rfl rfl ?_
 refine bp rfl ent_10 rfl (iw _ _ _ _ (by omega)) (fun w hw => (aO (bJ 0 rfl hw) bd)) ?_
 refine bD (t := 29) rfl (fun h3_2 => ?_) (fun h3_2 => ?_)
 have hle9 := lightEs_le h3_2
 have hok : TbOk l := fun x hx => ⟨hen x hx, hle9.1 x hx⟩
 have hl9 := hle9.2
 refine au (bC rfl) rfl rfl ?_
 refine au (ap rfl) rfl rfl ?_
 refine az rfl rfl ?_
 refine au (ap rfl) rfl rfl ?_
 refine az rfl rfl ?_
 refine bp rfl ent_11 rfl (c_LightHeld _ _ _ _ (by omega)) (fun w hw => (aO (bJ 2 rfl hw) bd)) ?_
 refine bD (t := 33) rfl (fun h3_6 => ?_) (fun h3_6 => ?_)
 have hlh := lightHs_le h3_6
 have hlh2 := hlh.2
 have hhs : ∀ h ∈ hs, 0 ≤ h.ad.lo := fun h hh => (hhen h hh).2.2.2.1
 have hhh : ∀ h ∈ hs, h.host.length ≤ 1000 ∧ 0 ≤ h.ad.lo := fun h hh => ⟨by have := hlh.1 h hh; omega, hhs h hh⟩
 refine az rfl rfl ?_
 refine au (bC rfl) rfl rfl ?_
 refine au (aI rfl rfl) rfl rfl ?_
 refine au (ap rfl) rfl rfl ?_
 refine az rfl rfl ?_
 refine au (ap rfl) rfl rfl ?_
 refine az rfl rfl ?_
 refine au (cL Tryz.underlying26 rfl) rfl rfl ?_
 refine az rfl rfl ?_
 refine au (c9 rfl rfl) rfl rfl ?_
 refine aB (t := 39) rfl (fun h3_12 => ?_) (fun h3_12 => ?_)
 refine au (aI rfl rfl) rfl rfl ?_
 refine au (ap rfl) rfl rfl ?_
 refine ax rfl rfl rfl rfl ?_
 refine ax rfl rfl rfl rfl ?_
 refine ax rfl rfl rfl rfl ?_
 refine au (aG rfl rfl) rfl rfl ?_
 refine ah ?_
 refine aq ?_
 refine aA rfl ?_
 refine ar ?_
 refine ai ?_
 refine au (ao rfl) rfl rfl ?_
 refine ah ?_
 refine aq ?_
 refine aQ ?_
 refine ay ?_
 refine aV (ts := [10]) rfl rfl rfl (fun w hw => ?_)
 exact ⟨(), rfl, hw.base, (hw.weak (List.nil_sublist _) (fun s hs => hs)).toNews⟩
 refine au (aI rfl rfl) rfl rfl ?_
 refine au (ap rfl) rfl rfl ?_
 refine az rfl rfl ?_
 refine au (a6 0 aR rfl rfl rfl rfl) rfl rfl ?_
 refine az rfl rfl ?_
 refine bb rfl ent_12 (hG _ _ _ _ _) rfl ?_
 refine bD (t := 43) rfl (fun h3_16 => ?_) (fun h3_16 => ?_)
 have hyl9 := iA h3_16
 have hyl : y.e.host.length ≤ 1000 := by omega
 refine az rfl rfl ?_
 refine au (bC rfl) rfl rfl ?_
 refine au (aI rfl rfl) rfl rfl ?_
 refine ah ?_
 refine aq ?_
 refine aC rfl ?_
 refine aS ?_
 refine aq ?_
 refine ar ?_
 refine ai ?_
 refine au (a6 2 dh rfl rfl rfl rfl) rfl rfl ?_
 refine gH rfl ent_14 rfl (c_OwnTable v l _ _ hok (by omega)) (fun w hw => (aO (bJ 0 rfl hw) (aO (bJ 1 rfl hw) bd))) (fun ⟨⟨lo, Ao, co⟩, hlo⟩ => ?_)
 have hlol : lo.length = l.length := by have := congrArg List.length hlo; simpa using this
 refine au (ap rfl) rfl rfl ?_
 refine bM rfl ent_15 rfl (c_Own_hd _ _ _ (by omega)) (fun w hw => (aO (bJ 2 rfl hw) bd)) (fun ⟨A4, c4⟩ => ?_)
 refine bM rfl ent_13 rfl (c_index_NewH v lo _ _ _ hs _ (hok.eqs hlo) (by omega) ((tab_e v hlo).trans hT) (by omega) hhh) (fun w hw => (aO (dD 2 rfl hw) (aO (dC 1 rfl hw) (aO (dD 0 rfl hw) bd)))) (fun ⟨oix, hno0, hyes0⟩ => ?_)
 refine cU (t := 51) (.tuple #[.pointer (ixP oix), .int .i64 (ixE oix)]) rfl (ixV_pe oix) ?_
 have hno : oix = none → ¬ bU (l.map (·.e)) hs := fun q => by rw [← hlo]; exact hno0 q
 have hyes : ∀ x, oix = some x → bU (l.map (·.e)) hs ∧ IxOk2 l hs x := fun x q => ⟨by rw [← hlo]; exact (hyes0 x q).1, (hyes0 x q).2.to hlo⟩
 have hyes1 : ∀ x, oix = some x → bU (l.map (·.e)) hs := fun x q => (hyes x q).1
 refine au (ap rfl) rfl rfl ?_
 refine au (aP rfl rfl) rfl rfl ?_
 refine au (aP rfl rfl) rfl rfl ?_
 refine au (ao rfl) rfl rfl ?_
 refine au (ao rfl) rfl rfl ?_
 refine ah ?_
 refine aq ?_
 refine ar ?_
 refine ai ?_
 refine au (a6 6 dh rfl rfl rfl rfl) rfl rfl ?_
 refine au (ap rfl) rfl rfl ?_
 refine bM rfl ent_16 rfl (c_ref18_New v l _ _ Q hs qc hok (by omega) hT (by omega) hhh) (fun w hw => (aO (bJ 0 rfl hw) (aO (bJ 1 rfl hw) (aO (bJ 2 rfl hw) bd)))) (fun ⟨orf, hrno, hryes⟩ => ?_)
 refine cU (t := 57) (.tuple #[.pointer (rfP orf), .int .i64 (rfE orf)]) rfl (rfV_pe orf) ?_
 refine au (ap rfl) rfl rfl ?_
 refine au (aP rfl rfl) rfl rfl ?_
 refine au (aP rfl rfl) rfl rfl ?_
 refine au (ao rfl) rfl rfl ?_
 refine au (ao rfl) rfl rfl ?_
 refine ah ?_
 refine aq ?_
 refine ar ?_
 refine ar ?_
 refine ai ?_
 refine au (ap rfl) rfl rfl ?_
 refine au (ap rfl) rfl rfl ?_
 refine au (bX rfl rfl) rfl rfl ?_
 refine dJ (t := 62) rfl (fun h => h (ixrf hno hyes1 hrno hryes).1) ?_
 refine au (ap rfl) rfl rfl ?_
 refine az rfl rfl ?_
 refine au (ap rfl) rfl rfl ?_
 refine az rfl rfl ?_
 refine au (gr Tryz.underlying39 rfl rfl) rfl rfl ?_
 refine az rfl rfl ?_
 refine au (ap rfl) rfl rfl ?_
 refine az rfl rfl ?_
 refine au (gr Tryz.underlying47 rfl rfl) rfl rfl ?_
 refine az rfl rfl ?_
 refine au (y_neqb Tryz.underlying4 rfl rfl) rfl rfl ?_
 refine dJ (t := 68) rfl (fun h => h (ixrf hno hyes1 hrno hryes).2) ?_
 refine au (aI rfl rfl) rfl rfl ?_
 refine ah ?_
 refine aq ?_
 refine aC rfl ?_
 refine aS ?_
 refine aq ?_
 refine ar ?_
 refine ar ?_
 refine ai ?_
 refine au (ap rfl) rfl rfl ?_
 refine au (gr Tryz.underlying47 rfl rfl) rfl rfl ?_
 refine bD (t := 71) rfl (fun h9_1 => ?_) (fun h9_1 => ?_)
 refine ah ?_
 refine aq ?_
 refine aA rfl ?_
 refine ar ?_
 refine ai ?_
 refine au (ao rfl) rfl rfl ?_
 refine ah ?_
 refine aq ?_
 refine aQ ?_
 refine ay ?_
 refine aV (ts := [10]) rfl rfl rfl (fun w hw => ?_)
 exact ⟨(), rfl, hw.base, (hw.weak (List.nil_sublist _) (fun s hs => hs)).toNews⟩
 obtain ⟨rfb, rfQ, rfq, rfl⟩ := rfP_yes h9_1
 have hH := hryes nofun
 obtain ⟨ix, rfl⟩ := ix_some18 hno hH
 obtain ⟨-, hix2⟩ := hyes ix rfl
 have hix := hix2.ix
 have hxll := ix_len hix
 have hxl : ix.l.length ≤ 1000000000 := by omega
 refine ah ?_
 refine aq ?_
 refine aC rfl ?_
 refine aS ?_
 refine aq ?_
 refine ar ?_
 refine ai ?_
 refine au (ap rfl) rfl rfl ?_
 refine au (ap rfl) rfl rfl ?_
 refine bp rfl ent_17 rfl (c_Find ix _) (fun w hw => (aO (bG (dC 1 rfl hw) (.head _)) (aO (bG (dC 1 rfl hw) (.tail _ (.head _))) bd))) ?_
 refine au (ap rfl) rfl rfl ?_
 refine au (aP rfl rfl) rfl rfl ?_
 refine au (aP rfl rfl) rfl rfl ?_
 refine bj aR rfl rfl (fun b8 => ?_)
 refine a0 aR rfl rfl rfl .z rfl rfl rfl rfl ?_
 refine au (ao rfl) rfl rfl ?_
 refine ah ?_
 refine aq ?_
 refine ar ?_
 refine ai ?_
 refine au (ap rfl) rfl rfl ?_
 refine au (ap rfl) rfl rfl ?_
 refine eM rfl ent_18 rfl (c_ref18_FindH v l F d rfb rfQ rfq hs.length n hok (by omega) (by omega)) (fun w hw => (aO (bG (dC 1 rfl hw) (.head _)) (aO (bJ 0 rfl hw) (aO (bJ 1 rfl hw) bd)))) (fun ⟨fr, hfr⟩ => ?_)
 refine au (ap rfl) rfl rfl ?_
 refine au (aP rfl rfl) rfl rfl ?_
 refine au (aP rfl rfl) rfl rfl ?_
 refine bj aR rfl rfl (fun b10 => ?_)
 refine a0 aR rfl rfl rfl .z rfl rfl rfl rfl ?_
 refine au (ao rfl) rfl rfl ?_
 refine ah ?_
 refine aq ?_
 refine ar ?_
 refine ai ?_
 refine au (ap rfl) rfl rfl ?_
 refine au (a6 8 bu rfl rfl rfl rfl) rfl rfl ?_
 refine bp rfl ent_19 rfl (c_Of ix _) (fun w hw => (aO (bG (dC 3 rfl hw) (.head _)) (aO (bG (dC 3 rfl hw) (.tail _ (.tail _ (.tail _ (.head _))))) bd))) ?_
 refine au (ap rfl) rfl rfl ?_
 refine au (aP rfl rfl) rfl rfl ?_
 refine au (aP rfl rfl) rfl rfl ?_
 refine bj aR rfl rfl (fun b11 => ?_)
 refine a0 aR rfl rfl rfl .z rfl rfl rfl rfl ?_
 refine au (ao rfl) rfl rfl ?_
 refine ah ?_
 refine aq ?_
 refine ar ?_
 refine ai ?_
 refine au (ap rfl) rfl rfl ?_
 refine au (a6 9 bu rfl rfl rfl rfl) rfl rfl ?_
 refine eM rfl ent_20 rfl (c_ref18_Of v l F d rfb rfQ hs rfq a hok (by omega) hT hH (by omega) hhh) (fun w hw => (aO (bG (dC 3 rfl hw) (.head _)) (aO (bJ 0 rfl hw) (aO (bJ 1 rfl hw) (aO (bG (dC 3 rfl hw) (.tail _ (.head _))) bd))))) (fun ⟨ro, hro⟩ => ?_)
 refine au (ap rfl) rfl rfl ?_
 refine au (aP rfl rfl) rfl rfl ?_
 refine au (aP rfl rfl) rfl rfl ?_
 refine bj aR rfl rfl (fun b13 => ?_)
 refine a0 aR rfl rfl rfl .z rfl rfl rfl rfl ?_
 refine au (ao rfl) rfl rfl ?_
 refine ah ?_
 refine aq ?_
 refine ar ?_
 refine ai ?_
 refine au (ap rfl) rfl rfl ?_
 refine bM rfl ent_21 rfl (c_all18 ix hxl) (fun w hw => (aO (bG (dC 5 rfl hw) (.head _)) (aO (bG (dC 5 rfl hw) (.tail _ (.tail _ (.tail _ (.tail _ (.head _)))))) bd))) (fun ⟨Al, cl⟩ => ?_)
 refine au (ap rfl) rfl rfl ?_
 refine au (aP rfl rfl) rfl rfl ?_
 refine au (aP rfl rfl) rfl rfl ?_
 refine cU (t := 100) (.bool true) rfl (congrArg Value.bool rfl) ?_
 refine au (ao rfl) rfl rfl ?_
 refine au (ao rfl) rfl rfl ?_
 refine ah ?_
 refine aq ?_
 refine ar ?_
 refine dz 46 rfl cu ?_
 refine aF (i := 0) rfl aj (a6 4 aR rfl rfl rfl rfl) aE aE rfl (aa av) (by kernel_rfl) rfl ?_
 refine aF (i := 1) rfl aj (a6 3 aR rfl rfl rfl rfl) aE aE rfl (aa av) (by kernel_rfl) rfl ?_
 refine cy (i := 2) rfl rfl rfl (bm rfl ent_22) (by kernel_rfl) rfl ?_
 refine bp rfl ent_22 rfl (hZ ((dd ix.hm n).getD br).e ((dd ix.hm n).getD br).A ((dd ix.hm n).getD br).B ((dd ix.hm n).getD br).c ((dd ix.hm n).getD br).d (fr.getD br).e (fr.getD br).A (fr.getD br).B (fr.getD br).c (fr.getD br).d (by have := ((fi_bnd hix hok (fi_mem2 hix n))).la; omega) (by have := ((fi_bnd hix hok (fi_mem2 hix n))).lp; omega)) (fun w hw => (aO (bG (dC 6 rfl hw) (.tail _ (.tail _ (.tail _ (.tail _ (.tail _ (bL (fi_mem2 hix _) _ (gD _)))))))) (aO (bG (dC 6 rfl hw) (.tail _ (.tail _ (.tail _ (.tail _ (.tail _ (bL (fi_mem2 hix _) _ (jA _)))))))) (aO ((rd_fe (bJ 1 rfl hw) (spec_mem hfr)).1) (aO ((rd_fe (bJ 1 rfl hw) (spec_mem hfr)).2) bd))))) ?_
 refine ah ?_
 refine cW aE ?_
 refine gn (t := 103) (.bool true) rfl (congrArg Value.bool (decide_eq_true (opt_e (find_ref hix hT hfr)).2)) ?_
 refine aF (i := 3) rfl aj (ap rfl) aE aE rfl (aa av) (by kernel_rfl) rfl ?_
 refine aF (i := 4) rfl (aJ rfl rfl) (ap rfl) aE aE rfl (aa av) (by kernel_rfl) rfl ?_
 refine aF (i := 5) rfl (aJ rfl rfl) (ap rfl) aE aE rfl (aa av) (by kernel_rfl) rfl ?_
 refine aF (i := 6) rfl (aJ rfl rfl) (y_eqlb Tryz.underlying4 rfl rfl) aE aE rfl (aa av) (by kernel_rfl) rfl ?_
 refine wa_at (t := 107) rfl (opt_e (find_ref hix hT hfr)).1 ?_
 refine aF (i := 7) rfl aj (aG rfl rfl) aE aE rfl (aa av) (by kernel_rfl) rfl ?_
 refine aF (i := 8) rfl aj (ap rfl) aE aE rfl (aa av) (by kernel_rfl) rfl ?_
 refine aF (i := 9) rfl (aJ rfl rfl) (a6 2 aR rfl rfl rfl rfl) aE aE rfl (aa av) (by kernel_rfl) rfl ?_
 refine aF (i := 10) rfl (aJ rfl rfl) (a6 1 aR rfl rfl rfl rfl) aE aE rfl (aa av) (by kernel_rfl) rfl ?_
 refine cy (i := 11) rfl rfl rfl (bm rfl ent_22) (by kernel_rfl) rfl ?_
 refine az rfl rfl ?_
 refine bp rfl ent_22 rfl (hZ ((bT ix.am a).getD br).e ((bT ix.am a).getD br).A ((bT ix.am a).getD br).B ((bT ix.am a).getD br).c ((bT ix.am a).getD br).d (ro.getD br).e (ro.getD br).A (ro.getD br).B (ro.getD br).c (ro.getD br).d (by have := ((fi_bnd hix hok (am_mem hix2 a))).la; omega) (by have := ((fi_bnd hix hok (am_mem hix2 a))).lp; omega)) (fun w hw => (aO (bG (dC 6 rfl hw) (.tail _ (.tail _ (.tail _ (.tail _ (.tail _ (bL (am_mem hix2 _) _ (gD _)))))))) (aO (bG (dC 6 rfl hw) (.tail _ (.tail _ (.tail _ (.tail _ (.tail _ (bL (am_mem hix2 _) _ (jA _)))))))) (aO ((rd_fe (bJ 1 rfl hw) (hro.2)).1) (aO ((rd_fe (bJ 1 rfl hw) (hro.2)).2) bd))))) ?_
 refine ah ?_
 refine cW aE ?_
 refine gn (t := 112) (.bool true) rfl (congrArg Value.bool (decide_eq_true (opt_e ((am_E hix2 a).trans hro.1.symm)).2)) ?_
 refine aF (i := 12) rfl aj (aG rfl rfl) aE aE rfl (aa av) (by kernel_rfl) rfl ?_
 refine aF (i := 13) rfl aj (ap rfl) aE aE rfl (aa av) (by kernel_rfl) rfl ?_
 refine aF (i := 14) rfl (aJ rfl rfl) (ap rfl) aE aE rfl (aa av) (by kernel_rfl) rfl ?_
 refine aF (i := 15) rfl (aJ rfl rfl) (ap rfl) aE aE rfl (aa av) (by kernel_rfl) rfl ?_
 refine aF (i := 16) rfl (aJ rfl rfl) (y_eqlb Tryz.underlying4 rfl rfl) aE aE rfl (aa av) (by kernel_rfl) rfl ?_
 refine wa_at (t := 117) rfl (opt_e ((am_E hix2 a).trans hro.1.symm)).1 ?_
 refine aF (i := 17) rfl aj (aG rfl rfl) aE aE rfl (aa av) (by kernel_rfl) rfl ?_
 refine aF (i := 18) rfl aj (ap rfl) aE aE rfl (aa av) (by kernel_rfl) rfl ?_
 refine aF (i := 19) rfl (aJ rfl rfl) (ap rfl) aE aE rfl (aa av) (by kernel_rfl) rfl ?_
 refine aF (i := 20) rfl (aJ rfl rfl) (a6 10 aR rfl rfl rfl rfl) aE aE rfl (aa av) (by kernel_rfl) rfl ?_
 refine aF (i := 22) rfl (aJ rfl rfl) (ap rfl) aE aE rfl (aa av) (by kernel_rfl) rfl ?_
 refine aF (i := 23) rfl (aJ rfl rfl) (a6 10 aR rfl rfl rfl rfl) aE aE rfl (aa av) (by kernel_rfl) rfl ?_
 refine cy (i := 21) rfl rfl rfl (bm rfl ent_24) (by kernel_rfl) rfl ?_
 refine az rfl rfl ?_
 refine bM rfl ent_24 rfl (c_Addrs ix l hs y hix2 hok hhs) (fun w hw => (aO (bG (dC 6 rfl hw) (.head _)) (aO (bG (dC 6 rfl hw) (.tail _ (.head _))) (aO (bG (dC 6 rfl hw) (.tail _ (.tail _ (.head _)))) (aO (bG (dC 6 rfl hw) (.tail _ (.tail _ (.tail _ (.head _))))) (aO (rd_sub (dC 6 rfl hw) (fun c hc => .tail _ (.tail _ (.tail _ (.tail _ (.tail _ hc)))))) bd)))))) (fun ⟨A14, c14⟩ => ?_)
 refine ah ?_
 refine cW (fun w h => h.weak (.cons _ (List.Sublist.refl _)) (fun s hs => hs)) ?_
 refine cy (i := 24) rfl rfl rfl (bm rfl ent_25) (by kernel_rfl) rfl ?_
 refine az rfl rfl ?_
 refine bM rfl ent_25 rfl (i0 v l F d rfb rfQ hs rfq y hyl hok (by omega) hT hH (by omega) hhh) (fun w hw => (aO (bG (dC 6 rfl hw) (.head _)) (aO (bJ 0 rfl hw) (aO (bJ 1 rfl hw) (aO (bG (dC 6 rfl hw) (.tail _ (.head _))) bd))))) (fun ⟨A15, c15⟩ => ?_)
 refine ah ?_
 refine cW (fun w h => h.weak (.cons _ (.cons _ (List.Sublist.refl _))) (fun s hs => hs)) ?_
 refine cy (i := 25) rfl rfl rfl (bm rfl ent_23) (by kernel_rfl) rfl ?_
 refine az rfl rfl ?_
 refine bp rfl ent_23 rfl (c_kit_Same_ad _ _ _ _ _ _ (Nat.le_trans (ads_len hix hok _) (by decide))) (fun w hw => (aO (dD 1 rfl hw) (aO (dD 0 rfl hw) bd))) ?_
 refine ah ?_
 refine cW (fun w h => h.weak (.cons _ (.cons _ (List.Sublist.refl _))) (fun s hs => hs)) ?_
 refine gn (t := 126) (.bool true) rfl (congrArg Value.bool (decide_eq_true (ads_E hix2 _))) ?_
 refine aF (i := 26) rfl aj (aG rfl rfl) (fun w h => h.weak (.cons _ (.cons _ (List.Sublist.refl _))) (fun s hs => hs)) aE rfl (aa av) (by kernel_rfl) rfl ?_
 refine aF (i := 27) rfl aj (ap rfl) (fun w h => h.weak (.cons _ (.cons _ (List.Sublist.refl _))) (fun s hs => hs)) aE rfl (aa av) (by kernel_rfl) rfl ?_
 refine aF (i := 28) rfl (aJ rfl rfl) (ap rfl) (fun w h => h.weak (.cons _ (.cons _ (List.Sublist.refl _))) (fun s hs => hs)) aE rfl (aa av) (by kernel_rfl) rfl ?_
 refine aF (i := 30) rfl (aJ rfl rfl) (ap rfl) (fun w h => h.weak (.cons _ (.cons _ (List.Sublist.refl _))) (fun s hs => hs)) aE rfl (aa av) (by kernel_rfl) rfl ?_
 refine cy (i := 29) rfl rfl rfl (bm rfl ent_27) (by kernel_rfl) rfl ?_
 refine az rfl rfl ?_
 refine bM rfl ent_27 rfl (c_Lost ix hxl (fun z hz => (fi_bnd hix hok (.tail _ hz)).h)) (fun w hw => (aO (bG (dC 8 rfl hw) (.head _)) (aO (bG (dC 8 rfl hw) (.tail _ (.tail _ (.head _)))) (aO (bG (dC 8 rfl hw) (.tail _ (.tail _ (.tail _ (.tail _ (.head _)))))) bd)))) (fun ⟨A16, c16⟩ => ?_)
 refine ah ?_
 refine cW (fun w h => h.weak (.cons _ (.cons _ (.cons _ (List.Sublist.refl _)))) (fun s hs => hs)) ?_
 refine cy (i := 31) rfl rfl rfl (bm rfl ent_28) (by kernel_rfl) rfl ?_
 refine az rfl rfl ?_
 refine bM rfl ent_28 rfl (c_ref18_Lost v l F d rfb rfQ hs rfq hok (by omega) hT hH (by omega) hhh) (fun w hw => (aO (bG (dC 8 rfl hw) (.head _)) (aO (bJ 0 rfl hw) (aO (bJ 1 rfl hw) (aO (bG (dC 8 rfl hw) (.tail _ (.head _))) bd))))) (fun ⟨A17, c17⟩ => ?_)
 refine ah ?_
 refine cW (fun w h => h.weak (.cons _ (.cons _ (.cons _ (.cons _ (List.Sublist.refl _))))) (fun s hs => hs)) ?_
 refine cy (i := 32) rfl rfl rfl (bm rfl ent_26) (by kernel_rfl) rfl ?_
 refine az rfl rfl ?_
 refine bp rfl ent_26 rfl (c_kit_Same_n _ _ _ _ _ _ (Nat.le_trans (lost_len ix ix.l) (by omega))) (fun w hw => (aO (dD 1 rfl hw) (aO (dD 0 rfl hw) bd))) ?_
 refine ah ?_
 refine cW (fun w h => h.weak (.cons _ (.cons _ (.cons _ (.cons _ (List.Sublist.refl _))))) (fun s hs => hs)) ?_
 refine gn (t := 133) (.bool true) rfl (congrArg Value.bool (decide_eq_true (lost_E hix2))) ?_
 refine aF (i := 33) rfl aj (aG rfl rfl) (fun w h => h.weak (.cons _ (.cons _ (.cons _ (.cons _ (List.Sublist.refl _))))) (fun s hs => hs)) aE rfl (aa av) (by kernel_rfl) rfl ?_
 refine aF (i := 34) rfl aj (ap rfl) (fun w h => h.weak (.cons _ (.cons _ (.cons _ (.cons _ (List.Sublist.refl _))))) (fun s hs => hs)) aE rfl (aa av) (by kernel_rfl) rfl ?_
 refine aF (i := 35) rfl (aJ rfl rfl) (ap rfl) (fun w h => h.weak (.cons _ (.cons _ (.cons _ (.cons _ (List.Sublist.refl _))))) (fun s hs => hs)) aE rfl (aa av) (by kernel_rfl) rfl ?_
 refine aF (i := 36) rfl aj (aG rfl rfl) (fun w h => h.weak (.cons _ (.cons _ (.cons _ (.cons _ (List.Sublist.refl _))))) (fun s hs => hs)) aE rfl (aa av) (by kernel_rfl) rfl ?_
 refine aF (i := 37) rfl aj (ap rfl) (fun w h => h.weak (.cons _ (.cons _ (.cons _ (.cons _ (List.Sublist.refl _))))) (fun s hs => hs)) aE rfl (aa av) (by kernel_rfl) rfl ?_
 refine aF (i := 38) rfl (aJ rfl rfl) (aD eQ rfl) (fun w h => h.weak (.cons _ (.cons _ (.cons _ (.cons _ (List.Sublist.refl _))))) (fun s hs => hs)) aE rfl (aa av) (by kernel_rfl) rfl ?_
 refine aF (i := 39) rfl (aJ rfl rfl) (aM 12 de rfl rfl rfl) (fun w h => h.weak (.cons _ (.cons _ (.cons _ (.cons _ (List.Sublist.refl _))))) (fun s hs => hs)) aE rfl (aa av) (by kernel_rfl) rfl ?_
 refine aF (i := 40) rfl (aJ rfl rfl) (ap rfl) (fun w h => h.weak (.cons _ (.cons _ (.cons _ (.cons _ (List.Sublist.refl _))))) (fun s hs => hs)) aE rfl (aa av) (by kernel_rfl) rfl ?_
 refine aF (i := 41) rfl (aJ rfl rfl) (dW rfl (bu_24_0_1 _ _ _ _)) (fun w h => h.weak (.cons _ (.cons _ (.cons _ (.cons _ (List.Sublist.refl _))))) (fun s hs => hs)) aE rfl (aa av) (by kernel_rfl) rfl ?_
 refine aF (i := 42) rfl (aJ rfl rfl) (a6 12 dh rfl rfl rfl rfl) (fun w h => h.weak (.cons _ (.cons _ (.cons _ (.cons _ (List.Sublist.refl _))))) (fun s hs => hs)) aE rfl (aa av) (by kernel_rfl) rfl ?_
 refine cy (i := 43) rfl rfl rfl (bm rfl ent_29) (by kernel_rfl) rfl ?_
 refine az rfl rfl ?_
 refine bp rfl ent_29 rfl (c_ref17_Same v ix.l _ _ v l _ _ (hok.eqs hix.es) hxl (by omega)) (fun w hw => (aO (dD 4 rfl hw) (aO (rd_sub (dC 10 rfl hw) (fun c hc => .tail _ (.tail _ (.tail _ (.tail _ (.tail _ (List.mem_append_right _ hc))))))) (aO (bJ 0 rfl hw) (aO (bJ 1 rfl hw) bd))))) ?_
 refine ah ?_
 refine cW (fun w h => h.weak (.cons _ (.cons _ (.cons _ (.cons _ (List.Sublist.refl _))))) (fun s hs => hs)) ?_
 refine gn (t := 144) (.bool true) rfl (congrArg Value.bool (decide_eq_true ⟨rfl, hix.es⟩)) ?_
 refine aF (i := 44) rfl aj (aG rfl rfl) (fun w h => h.weak (.cons _ (.cons _ (.cons _ (.cons _ (List.Sublist.refl _))))) (fun s hs => hs)) aE rfl (aa av) (by kernel_rfl) rfl ?_
 refine aF (i := 45) rfl aj (ao rfl) (fun w h => h.weak (.cons _ (.cons _ (.cons _ (.cons _ (List.Sublist.refl _))))) (fun s hs => hs)) aE rfl (aa av) (by kernel_rfl) rfl ?_
 refine cp (by kernel_rfl) ?_
 refine aq ?_
 refine aQ ?_
 refine aV (ts := [10]) rfl rfl rfl (fun w hw => ?_)
 exact ⟨(), rfl, hw.base, (hw.weak (List.nil_sublist _) (fun s hs => hs)).toNews⟩
 refine az rfl rfl ?_
 refine au (bC rfl) rfl rfl ?_
 refine au (aI rfl rfl) rfl rfl ?_
 refine ah ?_
 refine aq ?_
 refine aA rfl ?_
 refine ar ?_
 refine ai ?_
 refine au (ao rfl) rfl rfl ?_
 refine ah ?_
 refine aq ?_
 refine aQ ?_
 refine ay ?_
 refine aV (ts := [10]) rfl rfl rfl (fun w hw => ?_)
 exact ⟨(), rfl, hw.base, (hw.weak (List.nil_sublist _) (fun s hs => hs)).toNews⟩
 refine az rfl rfl ?_
 refine au (bC rfl) rfl rfl ?_
 refine au (aI rfl rfl) rfl rfl ?_
 refine au (ap rfl) rfl rfl ?_
 refine ax rfl rfl rfl rfl ?_
 refine ax rfl rfl rfl rfl ?_
 refine ax rfl rfl rfl rfl ?_
 refine au (aG rfl rfl) rfl rfl ?_
 refine au (ap rfl) rfl rfl ?_
 refine ax rfl rfl rfl rfl ?_
 refine ax rfl rfl rfl rfl ?_
 refine ax rfl rfl rfl rfl ?_
 refine au (aG rfl rfl) rfl rfl ?_
 refine ah ?_
 refine aq ?_
 refine aA rfl ?_
 refine ar ?_
 refine ai ?_
 refine au (ao rfl) rfl rfl ?_
 refine ah ?_
 refine aq ?_
 refine aQ ?_
 refine ay ?_
 refine aV (ts := [10]) rfl rfl rfl (fun w hw => ?_)
 exact ⟨(), rfl, hw.base, (hw.weak (List.nil_sublist _) (fun s hs => hs)).toNews⟩
 refine au (bC rfl) rfl rfl ?_
 refine au (ap rfl) rfl rfl ?_
 refine ax rfl rfl rfl rfl ?_
 refine ax rfl rfl rfl rfl ?_
 refine ax rfl rfl rfl rfl ?_
 refine au (aG rfl rfl) rfl rfl ?_
 refine au (ap rfl) rfl rfl ?_
 refine ax rfl rfl rfl rfl ?_
 refine ax rfl rfl rfl rfl ?_
 refine ax rfl rfl rfl rfl ?_
 refine au (aG rfl rfl) rfl rfl ?_
 refine au (ap rfl) rfl rfl ?_
 refine ax rfl rfl rfl rfl ?_
 refine ax rfl rfl rfl rfl ?_
 refine ax rfl rfl rfl rfl ?_
 refine au (aG rfl rfl) rfl rfl ?_
 refine ah ?_
 refine aq ?_
 refine aA rfl ?_
 refine ar ?_
 refine ai ?_
 refine au (ao rfl) rfl rfl ?_
 refine ah ?_
 refine aq ?_
 refine aQ ?_
 refine ay ?_
 refine aV (ts := [10]) rfl rfl rfl (fun w hw => ?_)
 exact ⟨(), rfl, hw.base, (hw.weak (List.nil_sublist _) (fun s hs => hs)).toNews⟩
 refine ar ?_
 refine ai ?_
 refine cv rfl rfl rfl (fun b19 => ?_)
 refine cv rfl rfl rfl (fun b20 => ?_)
 refine cv rfl rfl rfl (fun b21 => ?_)
 refine au (ao rfl) rfl rfl ?_
 refine ah ?_
 refine aq ?_
 refine ar ?_
 refine ar ?_
 refine ai ?_
 refine bb rfl ent_9 c_lives18 rfl ?_
 refine cU (t := 25) (.bool true) rfl (congrArg Value.bool rfl) ?_
 refine au (bC rfl) rfl rfl ?_
 refine ah ?_
 refine aq ?_
 refine aC rfl ?_
 refine aS ?_
 refine aq ?_
 refine ar ?_
 refine ar ?_
 refine ai ?_
 refine au (aD cw rfl) rfl rfl ?_
 refine au (aM 2 bZ rfl rfl rfl) rfl rfl ?_
 refine bp rfl ent_10 rfl (iw _ _ _ _ (by omega)) (fun w hw => (aO (bJ 0 rfl hw) bd)) ?_
 refine bD (t := 29) rfl (fun h3_2 => ?_) (fun h3_2 => ?_)
 have hle9 := lightEs_le h3_2
 have hok : TbOk l := fun x hx => ⟨hen x hx, hle9.1 x hx⟩
 have hl9 := hle9.2
 refine au (bC rfl) rfl rfl ?_
 refine au (ap rfl) rfl rfl ?_
 refine az rfl rfl ?_
 refine au (ap rfl) rfl rfl ?_
 refine az rfl rfl ?_
 refine bp rfl ent_11 rfl (c_LightHeld _ _ _ _ (by omega)) (fun w hw => (aO (bJ 2 rfl hw) bd)) ?_
 refine bD (t := 33) rfl (fun h3_6 => ?_) (fun h3_6 => ?_)
 have hlh := lightHs_le h3_6
 have hlh2 := hlh.2
 have hhs : ∀ h ∈ hs, 0 ≤ h.ad.lo := fun h hh => (hhen h hh).2.2.2.1
 have hhh : ∀ h ∈ hs, h.host.length ≤ 1000 ∧ 0 ≤ h.ad.lo := fun h hh => ⟨by have := hlh.1 h hh; omega, hhs h hh⟩
 refine az rfl rfl ?_
 refine au (bC rfl) rfl rfl ?_
 refine au (aI rfl rfl) rfl rfl ?_
 refine au (ap rfl) rfl rfl ?_
 refine az rfl rfl ?_
 refine au (ap rfl) rfl rfl ?_
 refine az rfl rfl ?_
 refine au (cL Tryz.underlying26 rfl) rfl rfl ?_
 refine az rfl rfl ?_
 refine au (c9 rfl rfl) rfl rfl ?_
 refine aB (t := 39) rfl (fun h3_12 => ?_) (fun h3_12 => ?_)
 refine au (aI rfl rfl) rfl rfl ?_
 refine au (ap rfl) rfl rfl ?_
 refine ax rfl rfl rfl rfl ?_
 refine ax rfl rfl rfl rfl ?_
 refine ax rfl rfl rfl rfl ?_
 refine au (aG rfl rfl) rfl rfl ?_
 refine ah ?_
 refine aq ?_
 refine aA rfl ?_
 refine ar ?_
 refine ai ?_
 refine au (ao rfl) rfl rfl ?_
 refine ah ?_
 refine aq ?_
 refine aQ ?_
 refine ay ?_
 refine aV (ts := [10]) rfl rfl rfl (fun w hw => ?_)
 exact ⟨(), rfl, hw.base, (hw.weak (List.nil_sublist _) (fun s hs => hs)).toNews⟩
 refine au (aI rfl rfl) rfl rfl ?_
 refine au (ap rfl) rfl rfl ?_
 refine az rfl rfl ?_
 refine au (a6 0 aR rfl rfl rfl rfl) rfl rfl ?_
 refine az rfl rfl ?_
 refine bb rfl ent_12 (hG _ _ _ _ _) rfl ?_
 refine bD (t := 43) rfl (fun h3_16 => ?_) (fun h3_16 => ?_)
 have hyl9 := iA h3_16
 have hyl : y.e.host.length ≤ 1000 := by omega
 refine az rfl rfl ?_
 refine au (bC rfl) rfl rfl ?_
 refine au (aI rfl rfl) rfl rfl ?_
 refine ah ?_
 refine aq ?_
 refine aC rfl ?_
 refine aS ?_
 refine aq ?_
 refine ar ?_
 refine ai ?_
 refine au (a6 2 dh rfl rfl rfl rfl) rfl rfl ?_
 refine gH rfl ent_14 rfl (c_OwnTable v l _ _ hok (by omega)) (fun w hw => (aO (bJ 0 rfl hw) (aO (bJ 1 rfl hw) bd))) (fun ⟨⟨lo, Ao, co⟩, hlo⟩ => ?_)
 have hlol : lo.length = l.length := by have := congrArg List.length hlo; simpa using this
 refine au (ap rfl) rfl rfl ?_
 refine bM rfl ent_15 rfl (c_Own_hd _ _ _ (by omega)) (fun w hw => (aO (bJ 2 rfl hw) bd)) (fun ⟨A22, c22⟩ => ?_)
 refine bp rfl ent_13 rfl (c_index_Newbad v lo _ _ (hok.eqs hlo) (by omega) (fun q => hT ((tab_e v hlo).symm.trans q)) _ _ _) (fun w hw => (aO (dD 2 rfl hw) (aO (dC 1 rfl hw) bd))) ?_
 refine au (ap rfl) rfl rfl ?_
 refine au (aP rfl rfl) rfl rfl ?_
 refine au (aP rfl rfl) rfl rfl ?_
 refine au (ao rfl) rfl rfl ?_
 refine au (ao rfl) rfl rfl ?_
 refine ah ?_
 refine aq ?_
 refine ar ?_
 refine ai ?_
 refine au (a6 5 dh rfl rfl rfl rfl) rfl rfl ?_
 refine au (ap rfl) rfl rfl ?_
 refine bp rfl ent_16 rfl (c_ref18_Newbad v l _ _ hok (by omega) hT _ _ _) (fun w hw => (aO (bJ 0 rfl hw) (aO (bJ 1 rfl hw) bd))) ?_
 refine au (ap rfl) rfl rfl ?_
 refine au (aP rfl rfl) rfl rfl ?_
 refine au (aP rfl rfl) rfl rfl ?_
 refine au (ao rfl) rfl rfl ?_
 refine au (ao rfl) rfl rfl ?_
 refine ah ?_
 refine aq ?_
 refine ar ?_
 refine ar ?_
 refine ai ?_
 refine au (ap rfl) rfl rfl ?_
 refine au (ap rfl) rfl rfl ?_
 refine au (bX rfl rfl) rfl rfl ?_
 refine dJ (t := 62) rfl (fun h => h (tab_e v hlo)) ?_
 refine au (ap rfl) rfl rfl ?_
 refine az rfl rfl ?_
 refine au (ap rfl) rfl rfl ?_
 refine az rfl rfl ?_
 refine au (gr Tryz.underlying39 rfl rfl) rfl rfl ?_
 refine az rfl rfl ?_
 refine au (ap rfl) rfl rfl ?_
 refine az rfl rfl ?_
 refine au (gr Tryz.underlying47 rfl rfl) rfl rfl ?_
 refine az rfl rfl ?_
 refine au (y_neqb Tryz.underlying4 rfl rfl) rfl rfl ?_
 refine dJ (t := 68) rfl (fun h => h rfl) ?_
 refine au (aI rfl rfl) rfl rfl ?_
 refine ah ?_
 refine aq ?_
 refine aC rfl ?_
 refine aS ?_
 refine aq ?_
 refine ar ?_
 refine ar ?_
 refine ai ?_
 refine au (ap rfl) rfl rfl ?_
 refine au (gr Tryz.underlying47 rfl rfl) rfl rfl ?_
 refine cU (t := 71) (.bool true) rfl (congrArg Value.bool rfl) ?_
 refine ah ?_
 refine aq ?_
 refine aA rfl ?_
 refine ar ?_
 refine ai ?_
 refine au (ao rfl) rfl rfl ?_
 refine ah ?_
 refine aq ?_
 refine aQ ?_
 refine ay ?_
 refine aV (ts := [10]) rfl rfl rfl (fun w hw => ?_)
 exact ⟨(), rfl, hw.base, (hw.weak (List.nil_sublist _) (fun s hs => hs)).toNews⟩
 refine az rfl rfl ?_
 refine au (bC rfl) rfl rfl ?_
 refine au (aI rfl rfl) rfl rfl ?_
 refine ah ?_
 refine aq ?_
 refine aA rfl ?_
 refine ar ?_
 refine ai ?_
 refine au (ao rfl) rfl rfl ?_
 refine ah ?_
 refine aq ?_
 refine aQ ?_
 refine ay ?_
 refine aV (ts := [10]) rfl rfl rfl (fun w hw => ?_)
 exact ⟨(), rfl, hw.base, (hw.weak (List.nil_sublist _) (fun s hs => hs)).toNews⟩
 refine az rfl rfl ?_
 refine au (bC rfl) rfl rfl ?_
 refine au (aI rfl rfl) rfl rfl ?_
 refine au (ap rfl) rfl rfl ?_
 refine ax rfl rfl rfl rfl ?_
 refine ax rfl rfl rfl rfl ?_
 refine ax rfl rfl rfl rfl ?_
 refine au (aG rfl rfl) rfl rfl ?_
 refine au (ap rfl) rfl rfl ?_
 refine ax rfl rfl rfl rfl ?_
 refine ax rfl rfl rfl rfl ?_
 refine ax rfl rfl rfl rfl ?_
 refine au (aG rfl rfl) rfl rfl ?_
 refine ah ?_
 refine aq ?_
 refine aA rfl ?_
 refine ar ?_
 refine ai ?_
 refine au (ao rfl) rfl rfl ?_
 refine ah ?_
 refine aq ?_
 refine aQ ?_
 refine ay ?_
 refine aV (ts := [10]) rfl rfl rfl (fun w hw => ?_)
 exact ⟨(), rfl, hw.base, (hw.weak (List.nil_sublist _) (fun s hs => hs)).toNews⟩
 refine au (bC rfl) rfl rfl ?_
 refine au (ap rfl) rfl rfl ?_
 refine ax rfl rfl rfl rfl ?_
 refine ax rfl rfl rfl rfl ?_
 refine ax rfl rfl rfl rfl ?_
 refine au (aG rfl rfl) rfl rfl ?_
 refine au (ap rfl) rfl rfl ?_
 refine ax rfl rfl rfl rfl ?_
 refine ax rfl rfl rfl rfl ?_
 refine ax rfl rfl rfl rfl ?_
 refine au (aG rfl rfl) rfl rfl ?_
 refine au (ap rfl) rfl rfl ?_
 refine ax rfl rfl rfl rfl ?_
 refine ax rfl rfl rfl rfl ?_
 refine ax rfl rfl rfl rfl ?_
 refine au (aG rfl rfl) rfl rfl ?_
 refine ah ?_
 refine aq ?_
 refine aA rfl ?_
 refine ar ?_
 refine ai ?_
 refine au (ao rfl) rfl rfl ?_
 refine ah ?_
 refine aq ?_
 refine aQ ?_
 refine ay ?_
 refine aV (ts := [10]) rfl rfl rfl (fun w hw => ?_)
 exact ⟨(), rfl, hw.base, (hw.weak (List.nil_sublist _) (fun s hs => hs)).toNews⟩

theorem dc_hd {w : World} : Dc Tryz.prog w 46 (α := Hd) (hdC) (fun _ => []) (fun h => h.host.length ≤ 9223372036854775807 ∧ AdOk h.ad) := fun H enc base sp hd fuel cs x h => by
  obtain ⟨xs, n, rfl, _, hcl, hxl, hf⟩ := DataW.trod_struct Tryz.underlying46 h
  have hcl2 : cs.length = 4 := hcl.trans (by kernel_rfl)
  obtain ⟨x0, c0, r0, o0⟩ := cS hxl hf 0 (ft := 26) (off := 0) (k := 1) (by kernel_rfl) (by kernel_rfl) (ji Tryz.underlying26)
  obtain ⟨x1, c1, r1, o1⟩ := cS hxl hf 1 (ft := 29) (off := 1) (k := 3) (by kernel_rfl) (by kernel_rfl) dc_ad
  have hcs := cut0 (gu c0 (gu c1 (cutn hcl2) rfl) rfl)
  exact ⟨⟨x0, x1⟩, hcs, nofun, o0, o1⟩

theorem dc_hds {w : World} : Dc Tryz.prog w 25 (fun p : List Hd × Option Addr × Nat => [.slice p.2.1 p.1.length p.2.2]) (fun p => Ch.rd p.2.1 4 hdC p.1 :: p.1.flatMap (fun _ => [])) (fun p => p.1.length ≤ 9223372036854775807 ∧ ∀ h ∈ p.1, h.host.length ≤ 9223372036854775807 ∧ AdOk h.ad) := jD Tryz.underlying25 (by kernel_rfl) (by decide) eU dc_hd

end Go.Proofs.YtnpdgmoeoidppaaGreat
