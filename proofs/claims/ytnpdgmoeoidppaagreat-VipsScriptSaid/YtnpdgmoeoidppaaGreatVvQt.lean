import Derived.Test.YtnpdgmoeoidppaaGreatVuQt
/- vips: the document pool, looked at -/
namespace Go.Proofs.YtnpdgmoeoidppaaGreat
open Go.RowKit Go.Shelf
set_option linter.unusedVariables false
set_option linter.unusedSimpArgs false

theorem ent_182 : Enters Tryz.prog 182 := enters_of Tryz.func182 (by kernel_rfl) rfl
theorem fS : FA Tryz.prog 174 0 0 := fun b o w => by kernel_rfl
theorem bU : FA Tryz.prog 174 1 5 := fun b o w => by kernel_rfl

/-- The document's pool: its range, what is reserved, where it lies. -/
structure Rp where
  rg : Rg
  res : List Rg
  A : Option Addr
  c : Nat
  b : Nat
def rpC (o : Rp) (Ah : Option Addr) (n ch : Nat) : List Value := [.bool o.rg.base.six, .int .u64 o.rg.base.hi, .int .u64 o.rg.base.lo, .int .i64 o.rg.bits, .slice o.A o.res.length o.c, .slice Ah n ch]
def cj (hm : Hm) : List Hd := hm.map fun p => p.2
def rpCh (o : Rp) (Ah : Option Addr) (ch : Nat) (hs : List Hd) : Ch := Ch.two (Ch.row o.b (rpC o Ah hs.length ch) 174) (Ch.ls Ah ch 46 4 d4 hs)
theorem cK (hm : Hm) : (cj hm).length = hm.length := List.length_map _
theorem gR (hm : Hm) (k : Nat) : (cj hm).getD k ct = (hm.getD k ([], ct)).2 := by
  rw [List.getD_eq_getElem?_getD, List.getD_eq_getElem?_getD, cj, List.getElem?_map]
  cases hm[k]? <;> rfl
theorem hs_mem {hm : Hm} {k : Nat} (hk : k < (cj hm).length) : hm.getD k ([], ct) ∈ hm := bX (by rw [cK] at hk; exact hk)
theorem hs_ok {hm : Hm} (h : PInv hm) {k : Nat} (hk : k < (cj hm).length) : bl ((cj hm).getD k ct).host = true ∧ (hm.getD k ([], ct)).1 = a6 ((cj hm).getD k ct).host := by
  rw [gR]; exact ⟨(h.fold _ (hs_mem hk)).2, (h.fold _ (hs_mem hk)).1⟩
theorem hs_short {hm : Hm} (h : PInv hm) {k : Nat} (hk : k < (cj hm).length) : ((cj hm).getD k ct).host.length ≤ 1000000000 := by have := hostOk_len (hs_ok h hk).1; omega
theorem fold_nil : a6 [] = [] := by decide +kernel
theorem fold_ne {n : aV} (h : bl n = true) : a6 n ≠ [] := by
  obtain ⟨h1, h2⟩ := hostOk_iff.1 h
  rw [a6, if_pos h2]
  intro e
  have := congrArg List.length e
  rw [dd] at this
  exact h1 (List.length_eq_zero_iff.1 this)
theorem same_host {a n : aV} (ha : bl a = true) (h : eY a n = true) : bl n = true ∧ a6 a = a6 n := by
  simp only [eY, Bool.and_eq_true, decide_eq_true_eq] at h
  refine ⟨hostOk_iff.2 ⟨fun e => ?_, h.1.2⟩, h.2⟩
  rw [e, fold_nil] at h; exact fold_ne ha h.2
def FindP (hm : Hm) (n : aV) (i : Int) : Prop := (i = -1 ∧ ofV hm n = (ad0, false) ∧ (bl n = true → cA hm (a6 n) = none)) ∨ ∃ k : Nat, i = k ∧ k < (cj hm).length ∧ bl n = true ∧ (hm.getD k ([], ct)).1 = a6 n ∧ cA hm (a6 n) = some ((cj hm).getD k ct)
theorem find_yes {hm : Hm} {n : aV} (h : PInv hm) {k : Nat} (hk : k < (cj hm).length) (hs : eY ((cj hm).getD k ct).host n = true) : FindP hm n k := by
  obtain ⟨h1, h2⟩ := hs_ok h hk
  obtain ⟨h3, h4⟩ := same_host h1 hs
  refine .inr ⟨k, rfl, hk, h3, h2.trans h4, ?_⟩
  rw [← h4, ← h2, gR]
  exact fJ h.keys (hs_mem hk)
theorem find_no {hm : Hm} {n : aV} (h : PInv hm) (hs : ∀ q, q < (cj hm).length → eY ((cj hm).getD q ct).host n = false) : FindP hm n (-1) := by
  have hno : bl n = true → cA hm (a6 n) = none := fun hn => lkp_none_iff.2 fun e => by
    obtain ⟨p, hp, e⟩ := List.mem_map.1 e
    obtain ⟨q, hq, rfl⟩ := List.mem_iff_getElem.1 hp
    have hq2 : q < (cj hm).length := by rw [cK]; exact hq
    have h1 := hs q hq2
    have h2 := hs_ok h hq2
    have e9 : hm.getD q ([], ct) = hm[q] := by rw [List.getD_eq_getElem?_getD, List.getElem?_eq_getElem hq]; rfl
    rw [e9, e] at h2
    rw [(same_ok h2.1 hn).2 h2.2.symm] at h1; cases h1
  refine .inl ⟨rfl, ?_, hno⟩
  by_cases hn : bl n = true
  · rw [ofV_ok hn, hno hn]; rfl
  · exact if_pos (by simpa using hn)
theorem am_has {hm : Hm} {a : Ad} : (cA (bw hm) a).isSome = true ↔ ∃ k, k < (cj hm).length ∧ ((cj hm).getD k ct).ad = a := by
  rw [lkp_mem, fg, List.mem_map]
  constructor
  · rintro ⟨p, hp, rfl⟩
    obtain ⟨q, hq, rfl⟩ := List.mem_iff_getElem.1 hp
    refine ⟨q, by rw [cK]; exact hq, ?_⟩
    rw [gR, List.getD_eq_getElem?_getD, List.getElem?_eq_getElem hq]; rfl
  · rintro ⟨k, hk, rfl⟩
    exact ⟨_, hs_mem hk, by rw [gR]⟩
theorem am_none {hm : Hm} {a : Ad} (h : ∀ q, q < (cj hm).length → ((cj hm).getD q ct).ad ≠ a) : (cA (bw hm) a).isSome = false := by
  rw [Bool.eq_false_iff]; intro e
  obtain ⟨k, hk, e⟩ := am_has.1 e
  exact h k hk e
theorem hostV_yes {hm : Hm} (h : PInv hm) {k : Nat} (hk : k < (cj hm).length) : gH hm (bw hm) ((cj hm).getD k ct).ad = (((cj hm).getD k ct).host, true) := by
  have hm9 := hs_mem hk
  have ha : cA (bw hm) ((cj hm).getD k ct).ad = some (hm.getD k ([], ct)).1 := fJ (by rw [fg]; exact h.ads) (List.mem_map.2 ⟨_, hm9, by rw [gR]⟩)
  have hk9 := fJ h.keys (a := (hm.getD k ([], ct)).1) (v := (hm.getD k ([], ct)).2) hm9
  rw [gH, ha, if_neg (fun q => nomatch q)]
  show (((cA hm (hm.getD k ([], ct)).1).getD ct).host, true) = _
  rw [hk9, gR]; rfl
theorem hostV_no {hm : Hm} {a : Ad} (h : ∀ q, q < (cj hm).length → ((cj hm).getD q ct).ad ≠ a) : gH hm (bw hm) a = ([], false) := if_pos (am_none h)
theorem free_res {res : List Rg} {am : Am} {a : Ad} {k : Nat} (hk : k < res.length) (h : ci (res.getD k hU) a = true) : cX res am a = false := by
  rw [cX, dJ, any_yes hk h, Bool.not_true, Bool.and_false]
theorem free_held {res : List Rg} {hm : Hm} {a : Ad} {k : Nat} (hk : k < (cj hm).length) (h : ((cj hm).getD k ct).ad = a) : cX res (bw hm) a = false := by
  rw [cX, am_has.2 ⟨k, hk, h⟩]; rfl
theorem free_yes {res : List Rg} {hm : Hm} {a : Ad} (h1 : (res.any fun x => ci x a) = false) (h2 : ∀ q, q < (cj hm).length → ((cj hm).getD q ct).ad ≠ a) : cX res (bw hm) a = true := by
  rw [cX, dJ, h1, am_none h2]; rfl

theorem c_ohost (n : aV) : cO Tryz.prog 181 #[.string (ba n)] (.bool (bl n)) := by
 intro w0
 refine bd (ok0 := no) (S := []) (args := [.string (ba n)]) 10 Tryz.func181 rfl rfl rfl (by simp) (by simp) ?_
 refine ao ?_
 refine ab ?_
 refine ap (ai rfl) rfl rfl ?_
 refine ae ?_
 refine aj ?_
 refine ao ?_
 refine ab ?_
 refine ap (ak rfl) rfl rfl ?_
 refine ap (y_neqs rfl rfl) rfl rfl ?_
 refine aC (t := 4) rfl (fun h1_1 => ?_) (fun h1_1 => ?_)
 refine ap (ak rfl) rfl rfl ?_
 refine az rfl rfl ?_
 refine ap (ak rfl) rfl rfl ?_
 refine az rfl rfl ?_
 refine aS rfl ent_111 (eS _) rfl ?_
 refine az rfl rfl ?_
 refine ap (dB rfl rfl) rfl rfl ?_
 refine ap (aX rfl rfl) rfl rfl ?_
 refine ap (ai rfl) rfl rfl ?_
 refine ae ?_
 refine aj ?_
 refine aF ?_
 refine aJ (ts := [2]) rfl rfl rfl (fun w hw => ?_)
 refine ⟨?_, hw.base⟩
 show Ending.returned (.bool _) = _
 congr 2
 focus first
   | (rw [bl, decide_eq_true h1_1]; rfl)
   | (rw [bl, decide_eq_false h1_1]; rfl)
   | (trace_state; fail)
 refine ap (ak rfl) rfl rfl ?_
 refine aO rfl rfl rfl rfl ?_
 refine aO rfl rfl rfl rfl ?_
 refine aO rfl rfl rfl rfl ?_
 refine ap (aW rfl rfl) rfl rfl ?_
 refine ap (ai rfl) rfl rfl ?_
 refine ae ?_
 refine aj ?_
 refine aF ?_
 refine aJ (ts := [2]) rfl rfl rfl (fun w hw => ?_)
 refine ⟨?_, hw.base⟩
 show Ending.returned (.bool _) = _
 congr 2
 focus first
   | (rw [bl, decide_eq_true h1_1]; rfl)
   | (rw [bl, decide_eq_false h1_1]; rfl)
   | (trace_state; fail)

theorem ck_start (rg : Rg) (res : List Rg) : if cw rg = 0 then dn (rg :: res) = dn (res.drop 0) else dn (rg :: res) = cw rg := by
  by_cases h : cw rg = 0
  · rw [if_pos h, dn, if_neg (fun q => q h)]; rfl
  · rw [if_neg h, dn, if_pos h]
theorem ck_step {rg : Rg} {res : List Rg} {k : Nat} {e : Int} (hk : k < res.length) (h : if e = 0 then dn (rg :: res) = dn (res.drop k) else dn (rg :: res) = e) (he : e = 0) : if cw (res.getD k hU) = 0 then dn (rg :: res) = dn (res.drop (k + 1)) else dn (rg :: res) = cw (res.getD k hU) := by
  rw [if_pos he, el res hU k hk] at h
  by_cases h2 : cw (res.getD k hU) = 0
  · rw [if_pos h2, h, dn, if_neg (fun q => q h2)]
  · rw [if_neg h2, h, dn, if_pos h2]
theorem ck_end {rg : Rg} {res : List Rg} {k : Nat} {e : Int} (hI : k ≤ res.length ∧ if e = 0 then dn (rg :: res) = dn (res.drop k) else dn (rg :: res) = e) (h : ¬ (k : Int) < res.length ∨ ¬ e = 0) : dn (rg :: res) = e := by
  obtain ⟨h1, h2⟩ := hI
  by_cases he : e = 0
  · rw [if_pos he, List.drop_of_length_le (by have := h.resolve_right (fun q => q he); omega)] at h2
    rw [h2, he]; rfl
  · rw [if_neg he] at h2; exact h2

theorem c_oCheck (rg : Rg) (res : List Rg) (A : Option Addr) (c : Nat) (hr : RgOk rg) (hrs : ∀ x ∈ res, RgOk x) (hl : res.length ≤ 4398046510976) : RC Tryz.prog 113 #[.agg (plC rg A res.length c).toArray] [Ch.rd A 4 dR res] (α := Unit) (fun _ => .int .i64 (dn (rg :: res))) (fun _ => []) := by
 refine bi (args := [.agg (plC rg A res.length c).toArray]) 26 Tryz.func113 rfl rfl rfl (fun w0 => ?_)
 refine ao ?_
 refine ab ?_
 refine bE rfl rfl rfl (fun b1 => ?_)
 refine ap (ai rfl) rfl rfl ?_
 refine ae ?_
 refine aj ?_
 refine ao ?_
 refine ab ?_
 refine ap (aB d7 rfl) rfl rfl ?_
 refine ap (aK 0 cm rfl rfl rfl rfl) rfl rfl ?_
 refine aS rfl ent_160 (fe rg hr.1) rfl ?_
 refine ap (ai rfl) rfl rfl ?_
 refine ae ?_
 refine aj ?_
 refine ao ?_
 refine ao ?_
 refine ab ?_
 refine ap (ai rfl) rfl rfl ?_
 refine ae ?_
 refine aj ?_
 refine aP ?_
 refine b8 (σ := Nat × Int) [3, 4, 8, 9, 10, 11, 12, 13, 14, 15, 16, 17, 18, 19, 20, 21, 22, 23, 24] (fun z => z.1 ≤ res.length ∧ (if z.2 = 0 then dn (rg :: res) = dn (res.drop z.1) else dn (rg :: res) = z.2)) (fun z => res.length - z.1) (fun z => [(4, .int .i64 z.1), (3, .int .i64 z.2)]) ((0, cw rg)) ?_ ⟨rfl, rfl, trivial⟩ (fun z hI => ?_)
 exact ⟨Nat.zero_le _, ck_start rg res⟩
 obtain ⟨k, e⟩ := z
 dsimp only at hI ⊢
 refine ao ?_
 refine ao ?_
 refine ab ?_
 refine ap (ak rfl) rfl rfl ?_
 refine ap (aB eb rfl) rfl rfl ?_
 refine ap (aM 0 fZ rfl rfl rfl) rfl rfl ?_
 refine ap (bM Tryz.underlying65 rfl) rfl rfl ?_
 refine ap (bF rfl rfl) rfl rfl ?_
 refine aC (t := 12) rfl (fun h3_4 => ?_) (fun h3_4 => ?_)
 have hk : k < res.length := by omega
 refine ap (ak rfl) rfl rfl ?_
 refine az rfl rfl ?_
 refine ap (ak rfl) rfl rfl ?_
 refine az rfl rfl ?_
 refine ap (dB rfl rfl) rfl rfl ?_
 refine aC (t := 15) rfl (fun h3_7 => ?_) (fun h3_7 => ?_)
 refine ap (aX rfl rfl) rfl rfl ?_
 refine ae ?_
 refine aj ?_
 refine ay rfl ?_
 refine aH ?_
 refine aj ?_
 refine ao ?_
 refine aP ?_
 refine ab ?_
 refine ap (aB eb rfl) rfl rfl ?_
 refine ap (aM 0 fZ rfl rfl rfl) rfl rfl ?_
 refine ap (ak rfl) rfl rfl ?_
 refine ap (bP  Tryz.underlying65 cm rfl rfl (bY 0 rfl) rfl (by omega)) rfl rfl ?_
 refine ap (dV fO hU cm rfl (bY 0 rfl) (by omega) rfl rfl rfl) rfl rfl ?_
 refine aS rfl ent_160 (fe (res.getD k hU) (hrs _ (bX hk)).1) rfl ?_
 refine ap (ai rfl) rfl rfl ?_
 refine ae ?_
 refine bq ?_
 refine aj ?_
 refine ab ?_
 refine ap (ak rfl) rfl rfl ?_
 refine ap (bg rfl rfl (by omega) (by omega)) rfl rfl ?_
 refine ap (ai rfl) rfl rfl ?_
 refine ae ?_
 refine bo ((k + 1, cw (res.getD k hU))) ?_ ?_ ⟨rfl, rfl, trivial⟩ (by repeat (first | exact trivial | refine ⟨rfl, ?_⟩)) aw
 exact ⟨by show k + 1 ≤ _; omega, ck_step hk hI.2 h3_7⟩
 show res.length - (k + 1) < res.length - k
 omega
 refine ap (aX rfl rfl) rfl rfl ?_
 refine ae ?_
 refine aj ?_
 refine au rfl ?_
 refine bC ?_
 refine aY ?_
 refine aU ?_
 refine a8 ?_
 refine aj ?_
 refine ao ?_
 refine ab ?_
 refine ap (ak rfl) rfl rfl ?_
 refine ap (ai rfl) rfl rfl ?_
 refine ae ?_
 refine aj ?_
 refine aF ?_
 refine aJ (ts := [2]) rfl rfl rfl (fun w hw => ?_)
 have hE := ck_end hI (by first | exact .inl h3_4 | exact .inr h3_7)
 exact ⟨(), by rw [hE]; rfl, hw.base, (hw.weak (List.nil_sublist _) (fun s hs => hs)).toNews⟩
 refine ap (ak rfl) rfl rfl ?_
 refine aO rfl rfl rfl rfl ?_
 refine aO rfl rfl rfl rfl ?_
 refine ap (aW rfl rfl) rfl rfl ?_
 refine ae ?_
 refine aj ?_
 refine au rfl ?_
 refine bC ?_
 refine aY ?_
 refine aU ?_
 refine a8 ?_
 refine aj ?_
 refine ao ?_
 refine ab ?_
 refine ap (ak rfl) rfl rfl ?_
 refine ap (ai rfl) rfl rfl ?_
 refine ae ?_
 refine aj ?_
 refine aF ?_
 refine aJ (ts := [2]) rfl rfl rfl (fun w hw => ?_)
 have hE := ck_end hI (by first | exact .inl h3_4 | exact .inr h3_7)
 exact ⟨(), by rw [hE]; rfl, hw.base, (hw.weak (List.nil_sublist _) (fun s hs => hs)).toNews⟩

theorem c_ofind (o : Rp) (Ah : Option Addr) (ch : Nat) (hm : Hm) (n : aV) (hi0 : PInv hm) (hn : n.length ≤ 1000000000) (hml : hm.length ≤ 1000000) : RC Tryz.prog 182 #[.pointer (some ⟨o.b, 0, none⟩), .string (ba n)] [Ch.row o.b (rpC o Ah (cj hm).length ch) 174, Ch.rd Ah 4 d4 (cj hm)] (α := {i : Int // FindP hm n i}) (fun i => .int .i64 i.1) (fun i => []) := by
 refine bi (args := [.pointer (some ⟨o.b, 0, none⟩), .string (ba n)]) 26 Tryz.func182 rfl rfl rfl (fun w0 => ?_)
 have hhl := cK hm
 refine ao ?_
 refine ab ?_
 refine ap (ai rfl) rfl rfl ?_
 refine ae ?_
 refine aj ?_
 refine ao ?_
 refine ao ?_
 refine ab ?_
 refine ap (ai rfl) rfl rfl ?_
 refine ae ?_
 refine aj ?_
 refine aP ?_
 refine b8 (σ := Nat) [4, 5, 6, 7, 8, 9, 10, 11, 12, 13, 14, 15, 16, 17, 18, 19, 20, 21, 22, 23, 24, 25] (fun k => k ≤ (cj hm).length ∧ ∀ q, q < k → eY ((cj hm).getD q ct).host n = false) (fun k => (cj hm).length - k) (fun k => [(5, .int .i64 k)]) (0) ?_ ⟨rfl, trivial⟩ (fun k hI => ?_)
 exact ⟨Nat.zero_le _, nofun⟩
 refine ao ?_
 refine ao ?_
 refine ab ?_
 refine ap (ak rfl) rfl rfl ?_
 refine ap (ak rfl) rfl rfl ?_
 refine ap (aR rfl) rfl rfl ?_
 refine ap (aB bU rfl) rfl rfl ?_
 refine ap (bp 0 dl rfl rfl rfl) rfl rfl ?_
 refine ap (bM Tryz.underlying25 rfl) rfl rfl ?_
 refine ap (bF rfl rfl) rfl rfl ?_
 refine aC (t := 12) rfl (fun h2_6 => ?_) (fun h2_6 => ?_)
 have hk : k < (cj hm).length := by omega
 refine ae ?_
 refine aj ?_
 refine ay rfl ?_
 refine aH ?_
 refine aj ?_
 refine ao ?_
 refine aP ?_
 refine ao ?_
 refine ab ?_
 refine ap (ak rfl) rfl rfl ?_
 refine ap (aR rfl) rfl rfl ?_
 refine ap (aB bU rfl) rfl rfl ?_
 refine ap (bp 0 dl rfl rfl rfl) rfl rfl ?_
 refine ap (ak rfl) rfl rfl ?_
 refine ap (bP  Tryz.underlying25 bh rfl rfl (bY 1 rfl) rfl (by omega)) rfl rfl ?_
 refine ap (aB fa_46_0 rfl) rfl rfl ?_
 refine ap (cG bI ct bL rfl (bY 1 rfl) (by omega) rfl rfl) rfl rfl ?_
 refine ap (ak rfl) rfl rfl ?_
 refine aS rfl ent_46 (iX _ _ (hs_short hi0 hk) hn) rfl ?_
 refine bk (t := 24) rfl (fun h4_9 => ?_) (fun h4_9 => ?_)
 refine ae ?_
 refine aj ?_
 refine ay rfl ?_
 refine ao ?_
 refine ab ?_
 refine ap (ak rfl) rfl rfl ?_
 refine ap (ai rfl) rfl rfl ?_
 refine ae ?_
 refine aj ?_
 refine aF ?_
 refine aL ?_
 refine aA ?_
 refine bu ?_
 refine aL ?_
 refine aA ?_
 refine aJ (ts := [4]) rfl rfl rfl (fun w hw => ?_)
 focus first
   | exact ⟨⟨k, find_yes hi0 hk h4_9⟩, rfl, hw.base, (hw.weak (List.nil_sublist _) (fun s hs => hs)).toNews⟩
   | exact ⟨⟨-1, find_no hi0 (fun q hq => hI.2 q (by omega))⟩, rfl, hw.base, (hw.weak (List.nil_sublist _) (fun s hs => hs)).toNews⟩
   | (trace_state; fail)
 refine ae ?_
 refine aj ?_
 refine au rfl ?_
 refine aH ?_
 refine bq ?_
 refine aj ?_
 refine ab ?_
 refine ap (ak rfl) rfl rfl ?_
 refine ap (bg rfl rfl (by omega) (by omega)) rfl rfl ?_
 refine ap (ai rfl) rfl rfl ?_
 refine ae ?_
 refine bo (k + 1) ?_ ?_ ⟨rfl, trivial⟩ (by repeat (first | exact trivial | refine ⟨rfl, ?_⟩)) aw
 refine ⟨by omega, fun q hq => ?_⟩
 by_cases e : q = k
 · rw [e]; exact h4_9
 · exact hI.2 q (by omega)
 omega
 refine ae ?_
 refine aj ?_
 refine au rfl ?_
 refine bC ?_
 refine aY ?_
 refine aU ?_
 refine a8 ?_
 refine aj ?_
 refine ao ?_
 refine ab ?_
 refine ap (ai rfl) rfl rfl ?_
 refine ae ?_
 refine aj ?_
 refine aF ?_
 refine aJ (ts := [4]) rfl rfl rfl (fun w hw => ?_)
 focus first
   | exact ⟨⟨k, find_yes hi0 hk h4_9⟩, rfl, hw.base, (hw.weak (List.nil_sublist _) (fun s hs => hs)).toNews⟩
   | exact ⟨⟨-1, find_no hi0 (fun q hq => hI.2 q (by omega))⟩, rfl, hw.base, (hw.weak (List.nil_sublist _) (fun s hs => hs)).toNews⟩
   | (trace_state; fail)

theorem c_oOf (o : Rp) (Ah : Option Addr) (ch : Nat) (hm : Hm) (n : aV) (hi0 : PInv hm) (hn : n.length ≤ 1000000000) (hml : hm.length ≤ 1000000) : RC Tryz.prog 118 #[.pointer (some ⟨o.b, 0, none⟩), .string (ba n)] [Ch.row o.b (rpC o Ah (cj hm).length ch) 174, Ch.rd Ah 4 d4 (cj hm)] (α := Unit) (fun _ => .tuple #[.agg (dN (ofV hm n).1).toArray, .bool (ofV hm n).2]) (fun _ => []) := by
 refine bi (args := [.pointer (some ⟨o.b, 0, none⟩), .string (ba n)]) 21 Tryz.func118 rfl rfl rfl (fun w0 => ?_)
 refine ao ?_
 refine ab ?_
 refine bz aN rfl rfl (fun b1 => ?_)
 refine ap (ai rfl) rfl rfl ?_
 refine ae ?_
 refine aj ?_
 refine ao ?_
 refine ab ?_
 refine ap (ak rfl) rfl rfl ?_
 refine ap (ak rfl) rfl rfl ?_
 refine gK rfl ent_182 rfl (c_ofind o Ah ch hm n hi0 hn hml) (fun w hw => (aQ (cI 0 rfl hw) (aQ (cI 1 rfl hw) bf))) (fun ⟨i9, hfi⟩ => ?_)
 refine bV (t := 9) (.int .i64 i9) rfl rfl ?_
 refine ap (ai rfl) rfl rfl ?_
 refine ae ?_
 refine aj ?_
 refine ao ?_
 refine ao ?_
 refine ab ?_
 refine ap (ak rfl) rfl rfl ?_
 refine ap (bF rfl rfl) rfl rfl ?_
 refine aC (t := 11) rfl (fun h2_1 => ?_) (fun h2_1 => ?_)
 obtain ⟨rfl, hof, -⟩ := hfi.resolve_right (fun ⟨k, h, _⟩ => by omega)
 refine ae ?_
 refine aj ?_
 refine ay rfl ?_
 refine ao ?_
 refine ab ?_
 refine ap (bN rfl (e6)) rfl rfl ?_
 refine aT aN rfl rfl rfl .z rfl rfl rfl rfl ?_
 refine ap (ai rfl) rfl rfl ?_
 refine ae ?_
 refine aj ?_
 refine aF ?_
 refine aA ?_
 refine dp (rs := [.cell 4 29, .tmp 5]) rfl (bA 0 aN rfl rfl rfl rfl (cC rfl bR)) rfl (fun w hw => ?_)
 focus first
   | exact ⟨(), by rw [hof]; rfl, hw.base, (hw.weak (List.nil_sublist _) (fun s hs => hs)).toNews⟩
   | (have hE : ofV hm n = (((cj hm).getD k9 ct).ad, true) := by rw [ofV_ok hok9, hlk9]; rfl
      exact ⟨(), by rw [hE]; rfl, hw.base, (hw.weak (List.nil_sublist _) (fun s hs => hs)).toNews⟩)
   | (trace_state; fail)
 obtain ⟨k9, rfl, hk9, hok9, -, hlk9⟩ := hfi.resolve_left (fun h => by omega)
 refine ae ?_
 refine aj ?_
 refine au rfl ?_
 refine aH ?_
 refine aj ?_
 refine ao ?_
 refine ab ?_
 refine ap (ak rfl) rfl rfl ?_
 refine ap (aR rfl) rfl rfl ?_
 refine ap (aB bU rfl) rfl rfl ?_
 refine ap (bp 0 dl rfl rfl rfl) rfl rfl ?_
 refine ap (ak rfl) rfl rfl ?_
 refine ap (bP  Tryz.underlying25 bh rfl rfl (bY 1 rfl) rfl (by omega)) rfl rfl ?_
 refine ap (aB dU rfl) rfl rfl ?_
 refine ap (iw 1 bI ct aN rfl (bY 1 rfl) (by omega) rfl rfl rfl) rfl rfl ?_
 refine aT aN rfl rfl rfl .z rfl rfl rfl rfl ?_
 refine ap (ai rfl) rfl rfl ?_
 refine ae ?_
 refine aj ?_
 refine aF ?_
 refine dp (rs := [.cell 4 29, .tmp 5]) rfl (bA 0 aN rfl rfl rfl rfl (cC rfl bR)) rfl (fun w hw => ?_)
 focus first
   | exact ⟨(), by rw [hof]; rfl, hw.base, (hw.weak (List.nil_sublist _) (fun s hs => hs)).toNews⟩
   | (have hE : ofV hm n = (((cj hm).getD k9 ct).ad, true) := by rw [ofV_ok hok9, hlk9]; rfl
      exact ⟨(), by rw [hE]; rfl, hw.base, (hw.weak (List.nil_sublist _) (fun s hs => hs)).toNews⟩)
   | (trace_state; fail)

set_option maxRecDepth 100000 in
theorem c_oHost (o : Rp) (Ah : Option Addr) (ch : Nat) (hm : Hm) (a : Ad) (hi0 : PInv hm) (hml : hm.length ≤ 1000000) : RC Tryz.prog 119 #[.pointer (some ⟨o.b, 0, none⟩), .agg (dN a).toArray] [Ch.row o.b (rpC o Ah (cj hm).length ch) 174, Ch.rd Ah 4 d4 (cj hm)] (α := Unit) (fun _ => .tuple #[.string (ba (gH hm (bw hm) a).1), .bool (gH hm (bw hm) a).2]) (fun _ => []) := by
 refine bi (args := [.pointer (some ⟨o.b, 0, none⟩), .agg (dN a).toArray]) 34 Tryz.func119 rfl rfl rfl (fun w0 => ?_)
 have hhl := cK hm
 refine ao ?_
 refine ab ?_
 refine bE rfl rfl rfl (fun b1 => ?_)
 refine ap (ai rfl) rfl rfl ?_
 refine ap (ai rfl) rfl rfl ?_
 refine ae ?_
 refine aj ?_
 refine ao ?_
 refine ao ?_
 refine ab ?_
 refine ap (ai rfl) rfl rfl ?_
 refine ae ?_
 refine aj ?_
 refine aP ?_
 refine b8 (σ := Nat) [4, 5, 6, 7, 8, 9, 10, 11, 12, 13, 14, 15, 16, 17, 18, 19, 20, 21, 22, 23, 24, 25, 26, 27, 28, 29, 30, 31, 32, 33] (fun k => k ≤ (cj hm).length ∧ ∀ q, q < k → ((cj hm).getD q ct).ad ≠ a) (fun k => (cj hm).length - k) (fun k => [(6, .int .i64 k)]) (0) ?_ ⟨rfl, trivial⟩ (fun k hI => ?_)
 exact ⟨Nat.zero_le _, nofun⟩
 refine ao ?_
 refine ao ?_
 refine ab ?_
 refine ap (ak rfl) rfl rfl ?_
 refine ap (ak rfl) rfl rfl ?_
 refine ap (aR rfl) rfl rfl ?_
 refine ap (aB bU rfl) rfl rfl ?_
 refine ap (bp 0 dl rfl rfl rfl) rfl rfl ?_
 refine ap (bM Tryz.underlying25 rfl) rfl rfl ?_
 refine ap (bF rfl rfl) rfl rfl ?_
 refine aC (t := 13) rfl (fun h2_6 => ?_) (fun h2_6 => ?_)
 have hk : k < (cj hm).length := by omega
 refine ae ?_
 refine aj ?_
 refine ay rfl ?_
 refine aH ?_
 refine aj ?_
 refine ao ?_
 refine aP ?_
 refine ao ?_
 refine de 10 rfl mixed ?_
 refine ax (i := 0) rfl ah (ak rfl) aw aw rfl (aa (aq (aa (av (aq (aa ar)))))) (by kernel_rfl) rfl ?_
 refine ax (i := 1) rfl ah (aR rfl) aw aw rfl (aa (aq (aa (av (aq (aa ar)))))) (by kernel_rfl) rfl ?_
 refine ax (i := 2) rfl ah (aB bU rfl) aw aw rfl (aa (aq (aa (av (aq (aa ar)))))) (by kernel_rfl) rfl ?_
 refine ax (i := 3) rfl ah (bp 0 dl rfl rfl rfl) aw aw rfl (aa (aq (aa (av (aq (aa ar)))))) (by kernel_rfl) rfl ?_
 refine ax (i := 4) rfl ah (ak rfl) aw aw rfl (aa (aq (aa (av (aq (aa ar)))))) (by kernel_rfl) rfl ?_
 refine ax (i := 5) rfl ah (bP  Tryz.underlying25 bh rfl rfl (bY 1 rfl) rfl (by omega)) aw aw rfl (aa (aq (aa (av (aq (aa ar)))))) (by kernel_rfl) rfl ?_
 refine ax (i := 6) rfl ah (aB dU rfl) aw aw rfl (aa (aq (aa (av (aq (aa ar)))))) (by kernel_rfl) rfl ?_
 refine ax (i := 7) rfl ah (iw 1 bI ct aN rfl (bY 1 rfl) (by omega) rfl rfl rfl) aw aw rfl (aa (aq (aa (av (aq (aa ar)))))) (by kernel_rfl) rfl ?_
 refine ax (i := 8) rfl ah (aK 0 aN rfl rfl rfl rfl) aw aw rfl (aa (aq (aa (av (aq (aa ar)))))) (by kernel_rfl) rfl ?_
 refine ax (i := 9) rfl ah (il (by kernel_rfl) rfl rfl (fq ((cj hm).getD k ct).ad a) rfl) aw aw rfl (aa (aq (aa (av (aq (aa ar)))))) (by kernel_rfl) rfl ?_
 refine g5 (t := 25) rfl (fun h4_9 => ?_) (fun h4_9 => ?_)
 refine bQ (by kernel_rfl) ?_
 refine aj ?_
 refine ay rfl ?_
 refine ao ?_
 refine ab ?_
 refine ap (ak rfl) rfl rfl ?_
 refine ap (aR rfl) rfl rfl ?_
 refine ap (aB bU rfl) rfl rfl ?_
 refine ap (bp 0 dl rfl rfl rfl) rfl rfl ?_
 refine ap (ak rfl) rfl rfl ?_
 refine ap (bP  Tryz.underlying25 bh rfl rfl (bY 1 rfl) rfl (by omega)) rfl rfl ?_
 refine ap (aB fa_46_0 rfl) rfl rfl ?_
 refine ap (cG bI ct bL rfl (bY 1 rfl) (by omega) rfl rfl) rfl rfl ?_
 refine ap (ai rfl) rfl rfl ?_
 refine ap (ai rfl) rfl rfl ?_
 refine ae ?_
 refine aj ?_
 refine aF ?_
 refine aL ?_
 refine aA ?_
 refine bu ?_
 refine aL ?_
 refine aA ?_
 refine aJ (ts := [4, 5]) rfl rfl rfl (fun w hw => ?_)
 focus first
   | (have hE := hostV_yes hi0 hk
      rw [h4_9] at hE
      exact ⟨(), by rw [hE]; rfl, hw.base, (hw.weak (List.nil_sublist _) (fun s hs => hs)).toNews⟩)
   | (have hE := hostV_no (hm := hm) (a := a) (fun q hq => hI.2 q (by omega))
      exact ⟨(), by rw [hE]; rfl, hw.base, (hw.weak (List.nil_sublist _) (fun s hs => hs)).toNews⟩)
   | (trace_state; fail)
 refine bQ (by kernel_rfl) ?_
 refine aj ?_
 refine au rfl ?_
 refine aH ?_
 refine bq ?_
 refine aj ?_
 refine ab ?_
 refine ap (ak rfl) rfl rfl ?_
 refine ap (bg rfl rfl (by omega) (by omega)) rfl rfl ?_
 refine ap (ai rfl) rfl rfl ?_
 refine ae ?_
 refine bo (k + 1) ?_ ?_ ⟨rfl, trivial⟩ (by repeat (first | exact trivial | refine ⟨rfl, ?_⟩)) aw
 refine ⟨by omega, fun q hq => ?_⟩
 by_cases e : q = k
 · rw [e]; exact h4_9
 · exact hI.2 q (by omega)
 omega
 refine ae ?_
 refine aj ?_
 refine au rfl ?_
 refine bC ?_
 refine aY ?_
 refine aU ?_
 refine a8 ?_
 refine aj ?_
 refine ao ?_
 refine ab ?_
 refine ap (ai rfl) rfl rfl ?_
 refine ap (ai rfl) rfl rfl ?_
 refine ae ?_
 refine aj ?_
 refine aF ?_
 refine aJ (ts := [4, 5]) rfl rfl rfl (fun w hw => ?_)
 focus first
   | (have hE := hostV_yes hi0 hk
      rw [h4_9] at hE
      exact ⟨(), by rw [hE]; rfl, hw.base, (hw.weak (List.nil_sublist _) (fun s hs => hs)).toNews⟩)
   | (have hE := hostV_no (hm := hm) (a := a) (fun q hq => hI.2 q (by omega))
      exact ⟨(), by rw [hE]; rfl, hw.base, (hw.weak (List.nil_sublist _) (fun s hs => hs)).toNews⟩)
   | (trace_state; fail)

set_option maxRecDepth 100000 in
theorem c_ofree (o : Rp) (Ah : Option Addr) (ch : Nat) (hm : Hm) (a : Ad) (hrs : ∀ x ∈ o.res, RgOk x) (hrl : o.res.length ≤ 4398046510976) (ha : gO a) (hml : hm.length ≤ 1000000) : RC Tryz.prog 184 #[.pointer (some ⟨o.b, 0, none⟩), .agg (dN a).toArray] [Ch.row o.b (rpC o Ah (cj hm).length ch) 174, Ch.rd Ah 4 d4 (cj hm), Ch.rd o.A 4 dR o.res] (α := Unit) (fun _ => .bool (cX o.res (bw hm) a)) (fun _ => []) := by
 refine bi (args := [.pointer (some ⟨o.b, 0, none⟩), .agg (dN a).toArray]) 46 Tryz.func184 rfl rfl rfl (fun w0 => ?_)
 have hhl := cK hm
 refine ao ?_
 refine ab ?_
 refine bE rfl rfl rfl (fun b1 => ?_)
 refine ap (ai rfl) rfl rfl ?_
 refine ae ?_
 refine aj ?_
 refine ao ?_
 refine ao ?_
 refine ab ?_
 refine ap (ai rfl) rfl rfl ?_
 refine ae ?_
 refine aj ?_
 refine aP ?_
 refine b8 (σ := Nat) [4, 5, 7, 8, 9, 10, 11, 12, 13, 14, 15, 16, 17, 18, 19, 20, 21, 22, 23, 24, 25, 26] (fun k => k ≤ o.res.length ∧ ∀ q, q < k → ci (o.res.getD q hU) a = false) (fun k => o.res.length - k) (fun k => [(5, .int .i64 k)]) (0) ?_ ⟨rfl, trivial⟩ (fun k hI => ?_)
 exact ⟨Nat.zero_le _, nofun⟩
 refine ao ?_
 refine ao ?_
 refine ab ?_
 refine ap (ak rfl) rfl rfl ?_
 refine ap (ak rfl) rfl rfl ?_
 refine ap (aR rfl) rfl rfl ?_
 refine ap (aB fS rfl) rfl rfl ?_
 refine ap (aB eb rfl) rfl rfl ?_
 refine ap (bp 0 fZ rfl rfl rfl) rfl rfl ?_
 refine ap (bM Tryz.underlying65 rfl) rfl rfl ?_
 refine ap (bF rfl rfl) rfl rfl ?_
 refine aC (t := 14) rfl (fun h2_7 => ?_) (fun h2_7 => ?_)
 have hk : k < o.res.length := by omega
 refine ae ?_
 refine aj ?_
 refine ay rfl ?_
 refine aH ?_
 refine aj ?_
 refine ao ?_
 refine aP ?_
 refine ao ?_
 refine de 10 rfl mixed ?_
 refine ax (i := 0) rfl ah (ak rfl) aw aw rfl (aa (aq (aa (av (aq (aa ar)))))) (by kernel_rfl) rfl ?_
 refine ax (i := 1) rfl ah (aR rfl) aw aw rfl (aa (aq (aa (av (aq (aa ar)))))) (by kernel_rfl) rfl ?_
 refine ax (i := 2) rfl ah (aB fS rfl) aw aw rfl (aa (aq (aa (av (aq (aa ar)))))) (by kernel_rfl) rfl ?_
 refine ax (i := 3) rfl ah (aB eb rfl) aw aw rfl (aa (aq (aa (av (aq (aa ar)))))) (by kernel_rfl) rfl ?_
 refine ax (i := 4) rfl ah (bp 0 fZ rfl rfl rfl) aw aw rfl (aa (aq (aa (av (aq (aa ar)))))) (by kernel_rfl) rfl ?_
 refine ax (i := 5) rfl ah (ak rfl) aw aw rfl (aa (aq (aa (av (aq (aa ar)))))) (by kernel_rfl) rfl ?_
 refine ax (i := 6) rfl ah (bP  Tryz.underlying65 cm rfl rfl (bY 2 rfl) rfl (by omega)) aw aw rfl (aa (aq (aa (av (aq (aa ar)))))) (by kernel_rfl) rfl ?_
 refine ax (i := 7) rfl ah (dV fO hU cm rfl (bY 2 rfl) (by omega) rfl rfl rfl) aw aw rfl (aa (aq (aa (av (aq (aa ar)))))) (by kernel_rfl) rfl ?_
 refine ax (i := 8) rfl ah (aK 0 aN rfl rfl rfl rfl) aw aw rfl (aa (aq (aa (av (aq (aa ar)))))) (by kernel_rfl) rfl ?_
 refine bD (i := 9) rfl rfl rfl (br rfl ent_94) (by kernel_rfl) rfl ?_
 refine aS rfl ent_94 (c_ref05Has (o.res.getD k hU) a (hrs _ (bX hk)).1 ha) rfl ?_
 refine ae ?_
 refine bc aw ?_
 refine gT (t := 26) rfl (fun h4_9 => ?_) (fun h4_9 => ?_)
 refine bQ (by kernel_rfl) ?_
 refine aj ?_
 refine ay rfl ?_
 refine ao ?_
 refine ab ?_
 refine ap (ai rfl) rfl rfl ?_
 refine ae ?_
 refine aj ?_
 refine aF ?_
 refine aL ?_
 refine aA ?_
 refine bu ?_
 refine aL ?_
 refine aA ?_
 refine aJ (ts := [4]) rfl rfl rfl (fun w hw => ?_)
 focus first
   | (have hE := free_held (res := o.res) hj h9_9
      exact ⟨(), by rw [hE]; rfl, hw.base, (hw.weak (List.nil_sublist _) (fun s hs => hs)).toNews⟩)
   | (have hE := free_yes (hm := hm) hno (fun q hq => hI.2 q (by omega))
      exact ⟨(), by rw [hE]; rfl, hw.base, (hw.weak (List.nil_sublist _) (fun s hs => hs)).toNews⟩)
   | (have hE := free_res (am := bw hm) hk h4_9
      exact ⟨(), by rw [hE]; rfl, hw.base, (hw.weak (List.nil_sublist _) (fun s hs => hs)).toNews⟩)
   | (trace_state; fail)
 refine bQ (by kernel_rfl) ?_
 refine aj ?_
 refine au rfl ?_
 refine aH ?_
 refine bq ?_
 refine aj ?_
 refine ab ?_
 refine ap (ak rfl) rfl rfl ?_
 refine ap (bg rfl rfl (by omega) (by omega)) rfl rfl ?_
 refine ap (ai rfl) rfl rfl ?_
 refine ae ?_
 refine bo (k + 1) ?_ ?_ ⟨rfl, trivial⟩ (by repeat (first | exact trivial | refine ⟨rfl, ?_⟩)) aw
 refine ⟨by omega, fun q hq => ?_⟩
 by_cases e : q = k
 · rw [e]; exact h4_9
 · exact hI.2 q (by omega)
 omega
 refine ae ?_
 refine aj ?_
 refine au rfl ?_
 refine bC ?_
 refine aY ?_
 refine aU ?_
 refine a8 ?_
 refine aj ?_
 refine ao ?_
 refine ao ?_
 have hno := any_no (res := o.res) (a := a) (fun q hq => hI.2 q (by omega))
 refine ab ?_
 refine ap (ai rfl) rfl rfl ?_
 refine ae ?_
 refine aj ?_
 refine aP ?_
 refine b8 (σ := Nat) [4, 6, 27, 28, 29, 30, 31, 32, 33, 34, 35, 36, 37, 38, 39, 40, 41, 42, 43, 44, 45] (fun j => j ≤ (cj hm).length ∧ ∀ q, q < j → ((cj hm).getD q ct).ad ≠ a) (fun j => (cj hm).length - j) (fun j => [(6, .int .i64 j)]) (0) ?_ ⟨rfl, trivial⟩ (fun j hI => ?_)
 exact ⟨Nat.zero_le _, nofun⟩
 refine ao ?_
 refine ao ?_
 refine ab ?_
 refine ap (ak rfl) rfl rfl ?_
 refine ap (ak rfl) rfl rfl ?_
 refine ap (aR rfl) rfl rfl ?_
 refine ap (aB bU rfl) rfl rfl ?_
 refine ap (bp 0 dl rfl rfl rfl) rfl rfl ?_
 refine ap (bM Tryz.underlying25 rfl) rfl rfl ?_
 refine ap (bF rfl rfl) rfl rfl ?_
 refine aC (t := 33) rfl (fun h7_6 => ?_) (fun h7_6 => ?_)
 have hj : j < (cj hm).length := by omega
 refine ae ?_
 refine aj ?_
 refine ay rfl ?_
 refine aH ?_
 refine aj ?_
 refine ao ?_
 refine aP ?_
 refine ao ?_
 refine de 10 rfl mixed ?_
 refine ax (i := 0) rfl ah (ak rfl) aw aw rfl (aa (aq (aa (av (aq (aa ar)))))) (by kernel_rfl) rfl ?_
 refine ax (i := 1) rfl ah (aR rfl) aw aw rfl (aa (aq (aa (av (aq (aa ar)))))) (by kernel_rfl) rfl ?_
 refine ax (i := 2) rfl ah (aB bU rfl) aw aw rfl (aa (aq (aa (av (aq (aa ar)))))) (by kernel_rfl) rfl ?_
 refine ax (i := 3) rfl ah (bp 0 dl rfl rfl rfl) aw aw rfl (aa (aq (aa (av (aq (aa ar)))))) (by kernel_rfl) rfl ?_
 refine ax (i := 4) rfl ah (ak rfl) aw aw rfl (aa (aq (aa (av (aq (aa ar)))))) (by kernel_rfl) rfl ?_
 refine ax (i := 5) rfl ah (bP  Tryz.underlying25 bh rfl rfl (bY 1 rfl) rfl (by omega)) aw aw rfl (aa (aq (aa (av (aq (aa ar)))))) (by kernel_rfl) rfl ?_
 refine ax (i := 6) rfl ah (aB dU rfl) aw aw rfl (aa (aq (aa (av (aq (aa ar)))))) (by kernel_rfl) rfl ?_
 refine ax (i := 7) rfl ah (iw 1 bI ct aN rfl (bY 1 rfl) (by omega) rfl rfl rfl) aw aw rfl (aa (aq (aa (av (aq (aa ar)))))) (by kernel_rfl) rfl ?_
 refine ax (i := 8) rfl ah (aK 0 aN rfl rfl rfl rfl) aw aw rfl (aa (aq (aa (av (aq (aa ar)))))) (by kernel_rfl) rfl ?_
 refine ax (i := 9) rfl ah (il (by kernel_rfl) rfl rfl (fq ((cj hm).getD j ct).ad a) rfl) aw aw rfl (aa (aq (aa (av (aq (aa ar)))))) (by kernel_rfl) rfl ?_
 refine g5 (t := 45) rfl (fun h9_9 => ?_) (fun h9_9 => ?_)
 refine bQ (by kernel_rfl) ?_
 refine aj ?_
 refine ay rfl ?_
 refine ao ?_
 refine ab ?_
 refine ap (ai rfl) rfl rfl ?_
 refine ae ?_
 refine aj ?_
 refine aF ?_
 refine aL ?_
 refine aA ?_
 refine bu ?_
 refine aL ?_
 refine aA ?_
 refine aJ (ts := [4]) rfl rfl rfl (fun w hw => ?_)
 focus first
   | (have hE := free_held (res := o.res) hj h9_9
      exact ⟨(), by rw [hE]; rfl, hw.base, (hw.weak (List.nil_sublist _) (fun s hs => hs)).toNews⟩)
   | (have hE := free_yes (hm := hm) hno (fun q hq => hI.2 q (by omega))
      exact ⟨(), by rw [hE]; rfl, hw.base, (hw.weak (List.nil_sublist _) (fun s hs => hs)).toNews⟩)
   | (have hE := free_res (am := bw hm) hk h4_9
      exact ⟨(), by rw [hE]; rfl, hw.base, (hw.weak (List.nil_sublist _) (fun s hs => hs)).toNews⟩)
   | (trace_state; fail)
 refine bQ (by kernel_rfl) ?_
 refine aj ?_
 refine au rfl ?_
 refine aH ?_
 refine bq ?_
 refine aj ?_
 refine ab ?_
 refine ap (ak rfl) rfl rfl ?_
 refine ap (bg rfl rfl (by omega) (by omega)) rfl rfl ?_
 refine ap (ai rfl) rfl rfl ?_
 refine ae ?_
 refine bo (j + 1) ?_ ?_ ⟨rfl, trivial⟩ (by repeat (first | exact trivial | refine ⟨rfl, ?_⟩)) aw
 refine ⟨by omega, fun q hq => ?_⟩
 by_cases e : q = j
 · rw [e]; exact h9_9
 · exact hI.2 q (by omega)
 omega
 refine ae ?_
 refine aj ?_
 refine au rfl ?_
 refine bC ?_
 refine aY ?_
 refine aU ?_
 refine a8 ?_
 refine aj ?_
 refine ao ?_
 refine ab ?_
 refine ap (ai rfl) rfl rfl ?_
 refine ae ?_
 refine aj ?_
 refine aF ?_
 refine aJ (ts := [4]) rfl rfl rfl (fun w hw => ?_)
 focus first
   | (have hE := free_held (res := o.res) hj h9_9
      exact ⟨(), by rw [hE]; rfl, hw.base, (hw.weak (List.nil_sublist _) (fun s hs => hs)).toNews⟩)
   | (have hE := free_yes (hm := hm) hno (fun q hq => hI.2 q (by omega))
      exact ⟨(), by rw [hE]; rfl, hw.base, (hw.weak (List.nil_sublist _) (fun s hs => hs)).toNews⟩)
   | (have hE := free_res (am := bw hm) hk h4_9
      exact ⟨(), by rw [hE]; rfl, hw.base, (hw.weak (List.nil_sublist _) (fun s hs => hs)).toNews⟩)
   | (trace_state; fail)

set_option maxRecDepth 100000 in
theorem c_oFree (o : Rp) (Ah : Option Addr) (ch : Nat) (hm : Hm) (hr : RgOk o.rg) (hrs : ∀ x ∈ o.res, RgOk x) (hrl : o.res.length ≤ 4398046510976) (hml : hm.length ≤ 1000000) : RC Tryz.prog 51 #[.pointer (some ⟨o.b, 0, none⟩)] [Ch.row o.b (rpC o Ah (cj hm).length ch) 174, Ch.rd Ah 4 d4 (cj hm), Ch.rd o.A 4 dR o.res] (α := Unit) (fun _ => .int .i64 ((dv o.rg o.res : Nat) - (cj hm).length)) (fun _ => []) := by
 refine bi (args := [.pointer (some ⟨o.b, 0, none⟩)]) 20 Tryz.func51 rfl rfl rfl (fun w0 => ?_)
 have hhl := cK hm
 have hfr := free_le o.rg o.res
 refine ao ?_
 refine ab ?_
 refine ap (ai rfl) rfl rfl ?_
 refine ae ?_
 refine aj ?_
 refine ao ?_
 refine de 18 rfl mixed ?_
 refine ax (i := 0) rfl ah (ak rfl) aw aw rfl (aa ar) (by kernel_rfl) rfl ?_
 refine ax (i := 1) rfl ah (aR rfl) aw aw rfl (aa ar) (by kernel_rfl) rfl ?_
 refine ax (i := 2) rfl ah (aB fS rfl) aw aw rfl (aa ar) (by kernel_rfl) rfl ?_
 refine ax (i := 3) rfl ah (aB d7 rfl) aw aw rfl (aa ar) (by kernel_rfl) rfl ?_
 refine ax (i := 4) rfl ah (dD 0 cm rfl rfl rfl rfl) aw aw rfl (aa ar) (by kernel_rfl) rfl ?_
 refine ax (i := 5) rfl ah (ak rfl) aw aw rfl (aa ar) (by kernel_rfl) rfl ?_
 refine ax (i := 6) rfl ah (aR rfl) aw aw rfl (aa ar) (by kernel_rfl) rfl ?_
 refine ax (i := 7) rfl ah (aB fS rfl) aw aw rfl (aa ar) (by kernel_rfl) rfl ?_
 refine ax (i := 8) rfl ah (aB eb rfl) aw aw rfl (aa ar) (by kernel_rfl) rfl ?_
 refine ax (i := 9) rfl ah (bp 0 fZ rfl rfl rfl) aw aw rfl (aa ar) (by kernel_rfl) rfl ?_
 refine ax (i := 11) rfl ah (ak rfl) aw aw rfl (aa ar) (by kernel_rfl) rfl ?_
 refine ax (i := 12) rfl ah (aR rfl) aw aw rfl (aa ar) (by kernel_rfl) rfl ?_
 refine ax (i := 13) rfl ah (aB bU rfl) aw aw rfl (aa ar) (by kernel_rfl) rfl ?_
 refine ax (i := 14) rfl ah (bp 0 dl rfl rfl rfl) aw aw rfl (aa ar) (by kernel_rfl) rfl ?_
 refine ax (i := 15) rfl ah (bM Tryz.underlying25 rfl) aw aw rfl (aa ar) (by kernel_rfl) rfl ?_
 refine bD (i := 10) rfl rfl rfl (br rfl ent_33) (by kernel_rfl) rfl ?_
 refine bv rfl ent_33 rfl (c_ref05Free o.rg o.res o.A o.c hr hrs hrl) (fun w hw => (aQ (cI 2 rfl hw) bf)) ?_
 refine ae ?_
 refine bc aw ?_
 refine ax (i := 16) rfl ah (fM rfl rfl (by omega) (by omega)) aw aw rfl (aa ar) (by kernel_rfl) rfl ?_
 refine ax (i := 17) rfl ah (ai rfl) aw aw rfl (aa ar) (by kernel_rfl) rfl ?_
 refine bQ (by kernel_rfl) ?_
 refine aj ?_
 refine aF ?_
 refine aJ (ts := [2]) rfl rfl rfl (fun w hw => ?_)
 exact ⟨(), rfl, hw.base, (hw.weak (List.nil_sublist _) (fun s hs => hs)).toNews⟩
end Go.Proofs.YtnpdgmoeoidppaaGreat
