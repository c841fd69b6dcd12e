import Derived.Test.YtnpdgmoeoidppaaLzQe
/- vips: a pool -/
namespace Go.Proofs.Ytnpdgmoeoidppaa
open Go.RowKit Go.Shelf
set_option linter.unusedVariables false
set_option linter.unusedSimpArgs false

theorem bu_121_0_1 (x0 : aL) (x1 : Bool) (x2 : Int) (x3 : Int) : Try.prog.built 121 [(0, .string (ba x0)), (1, .agg [.bool x1, .int .u64 x2, .int .u64 x3].toArray)] = some [.string (ba x0), .bool x1, .int .u64 x2, .int .u64 x3].toArray := by kernel_rfl
theorem ent_107 : Enters Try.prog 107 := enters_of Try.func107 (by kernel_rfl) rfl
theorem ent_35 : Enters Try.prog 35 := enters_of Try.func35 (by kernel_rfl) rfl
theorem ent_62 : Enters Try.prog 62 := enters_of Try.func62 (by kernel_rfl) rfl
theorem ent_66 : Enters Try.prog 66 := enters_of Try.func66 (by kernel_rfl) rfl
theorem ent_67 : Enters Try.prog 67 := enters_of Try.func67 (by kernel_rfl) rfl
theorem ent_69 : Enters Try.prog 69 := enters_of Try.func69 (by kernel_rfl) rfl
theorem ent_70 : Enters Try.prog 70 := enters_of Try.func70 (by kernel_rfl) rfl
theorem d6 : FA Try.prog 113 0 0 := fun b o w => by kernel_rfl
theorem ck : FA Try.prog 113 1 5 := fun b o w => by kernel_rfl
theorem d3 : FA Try.prog 113 2 6 := fun b o w => by kernel_rfl
theorem fa_113_3 : FA Try.prog 113 3 7 := fun b o w => by kernel_rfl
theorem dA : FA Try.prog 121 1 1 := fun b o w => by kernel_rfl
theorem eQ : FA Try.prog 67 0 0 := fun b o w => by kernel_rfl
theorem fJ : FA Try.prog 67 1 4 := fun b o w => by kernel_rfl
theorem c4 : TyI Try.prog 109 false 1 8 (.map none) := TyI.mk' (by kernel_rfl) (fun _ => by kernel_rfl)
theorem ty_110 : TyI Try.prog 110 false 1 8 (.map none) := TyI.mk' (by kernel_rfl) (fun _ => by kernel_rfl)
theorem br : TyI Try.prog 121 true 4 40 (.agg #[.string ⟨#[]⟩, .bool false, .int .u64 0, .int .u64 0]) := TyI.mk' (by kernel_rfl) (fun _ => by kernel_rfl)
theorem cV : TyI Try.prog 31 false 1 8 (.int .i64 0) := TyI.mk' (by kernel_rfl) (fun _ => by kernel_rfl)
theorem dP : TyI Try.prog 57 false 1 8 (.pointer none) := TyI.mk' (by kernel_rfl) (fun _ => by kernel_rfl)

abbrev bM : Hd → Value := fun h => .agg (hdC h).toArray
/-- A pool that was made: its range, what is reserved, its room, where it lies. -/
structure Vp where
  rg : Rg
  res : List Rg
  A : Option Addr
  c : Nat
  room : Int
  b : Nat
  rh : Nat
  ra : Nat
def plC (r : Rg) (A : Option Addr) (n c : Nat) : List Value := [.bool r.base.six, .int .u64 r.base.hi, .int .u64 r.base.lo, .int .i64 r.bits, .slice A n c]
def vpC (v : Vp) : List Value := [.bool v.rg.base.six, .int .u64 v.rg.base.hi, .int .u64 v.rg.base.lo, .int .i64 v.rg.bits, .slice v.A v.res.length v.c, .map (some v.rh), .map (some v.ra), .int .i64 v.room]
structure VOk (v : Vp) : Prop where
  rg : RgOk v.rg
  res : ∀ x ∈ v.res, RgOk x
  len : v.res.length ≤ 1000000000000
  room : 0 ≤ v.room ∧ v.room ≤ 65536
abbrev Hm := List (aL × Hd)
abbrev Am := List (Ad × aL)
def vmC (v : Vp) (hm : Hm) (am : Am) : Ch := Ch.two (Ch.mp v.rh bB bM hm) (Ch.mp v.ra dD bB am)
def eC : List Rg → Int
  | [] => 0
  | r :: t => if dQ r ≠ 0 then dQ r else eC t
theorem cksR_drop {l : List Rg} {k : Nat} (hk : k < l.length) (h : eC l = eC (l.drop k)) : eC l = if dQ (l.getD k rg0) ≠ 0 then dQ (l.getD k rg0) else eC (l.drop (k + 1)) := by
  rw [h, d4 l rg0 k hk, eC]
def bZ (n : aL) : Bool := decide (n ≠ []) && decide (bj n = 0)
def em (res : List Rg) (am : Am) (a : Ad) : Bool := !(bN am a).isSome && eo res a
def adO (v : Vp) (g : Option Int) : Ad := match g with | none => ad0 | some i => (atR v.rg i).1
def hmO (v : Vp) (hm : Hm) (n : aL) (g : Option Int) : Hm := match g with | none => hm | some i => hm ++ [(aT n, ⟨n, (atR v.rg i).1⟩)]
def amO (v : Vp) (am : Am) (n : aL) (g : Option Int) : Am := match g with | none => am | some i => am ++ [((atR v.rg i).1, aT n)]
def bu (v : Vp) (am : Am) (n : aL) : Option Int := (cW n (cv v.rg)).find? fun i => em v.res am (atR v.rg i).1
def bw (v : Vp) (hm : Hm) (am : Am) (n : aL) : (Ad × Int) × Hm × Am :=
  if bZ n = false then ((ad0, 2), hm, am) else
  match bN hm (aT n) with
  | some h => ((h.ad, 0), hm, am)
  | none => if v.room - hm.length = 0 then ((ad0, 10), hm, am) else
    ((adO v (bu v am n), if (bu v am n).isSome = true then 0 else 10), hmO v hm n (bu v am n), amO v am n (bu v am n))
theorem cA {v : Vp} {hm : Hm} {am : Am} {n : aL} (h : bZ n = false) : bw v hm am n = ((ad0, 2), hm, am) := if_pos h
theorem cG {v : Vp} {hm : Hm} {am : Am} {n : aL} (h : bZ n = true) (h2 : (bN hm (aT n)).isSome = true) : bw v hm am n = ((((bN hm (aT n)).getD eu).ad, 0), hm, am) := by
  rw [bw, if_neg (by rw [h]; decide)]
  cases h3 : bN hm (aT n) with
  | none => rw [h3] at h2; cases h2
  | some x => rfl
theorem cm {v : Vp} {hm : Hm} {am : Am} {n : aL} (h : bZ n = true) (h2 : (bN hm (aT n)).isSome = false) (h4 : v.room - hm.length = 0) : bw v hm am n = ((ad0, 10), hm, am) := by
  rw [bw, if_neg (by rw [h]; decide)]
  cases h3 : bN hm (aT n) with
  | some x => rw [h3] at h2; cases h2
  | none => exact if_pos h4
theorem bJ {v : Vp} {hm : Hm} {am : Am} {n : aL} (h : bZ n = true) (h2 : (bN hm (aT n)).isSome = false) (h4 : ¬ v.room - hm.length = 0) {g : Option Int} (hg : bu v am n = g) : bw v hm am n = ((adO v g, if g.isSome = true then 0 else 10), hmO v hm n g, amO v am n g) := by
  subst hg
  rw [bw, if_neg (by rw [h]; decide)]
  cases h3 : bN hm (aT n) with
  | some x => rw [h3] at h2; cases h2
  | none => exact if_neg h4
def fA (hm : Hm) (am : Am) (key : aL) : Hm × Am := (rmv hm key, rmv am ((bN hm key).getD eu).ad)
def ct (hm : Hm) (am : Am) (n : aL) : Int × Hm × Am := if bZ n = false then (2, hm, am) else if (bN hm (aT n)).isSome = false then (5, hm, am) else (0, fA hm am (aT n))
def ofV (hm : Hm) (n : aL) : Ad × Bool := if bZ n = false then (ad0, false) else (((bN hm (aT n)).getD eu).ad, (bN hm (aT n)).isSome)
def hostV (hm : Hm) (am : Am) (a : Ad) : aL × Bool := if (bN am a).isSome = false then ([], false) else (((bN hm ((bN am a).getD [])).getD eu).host, true)
theorem d8 {o : Option Hd} : Value.tuple [(o.map bM).getD (.agg [.string .empty, .bool false, .int .u64 0, .int .u64 0].toArray), .bool o.isSome].toArray = .tuple #[.agg (hdC (o.getD eu)).toArray, .bool o.isSome] := by cases o <;> rfl
theorem look1_hd {o : Option Hd} : (o.map bM).getD (.agg [.string .empty, .bool false, .int .u64 0, .int .u64 0].toArray) = .agg (hdC (o.getD eu)).toArray := by cases o <;> rfl
theorem look2_n {o : Option aL} : Value.tuple [(o.map bB).getD (.string .empty), .bool o.isSome].toArray = .tuple #[.string (ba (o.getD [])), .bool o.isSome] := by cases o <;> rfl
theorem look1_b {o : Option Bool} : (o.map (fun b : Bool => Value.bool b)).getD (.bool false) = .bool (o.getD false) := by cases o <;> rfl
theorem d9 {α β : Type} [DecidableEq α] {m : List (α × β)} {a : α} (h : (bN m a).isSome = false) : bN m a = none := by
  cases hh : bN m a with
  | none => rfl
  | some x => rw [hh] at h; cases h
theorem ff {res : List Rg} {am : Am} {a : Ad} (h : em res am a = true) : bN am a = none := d9 (by
  simp only [em, Bool.and_eq_true, Bool.not_eq_true'] at h; exact h.1)

theorem c_vCheck (rg : Rg) (res : List Rg) (A : Option Addr) (c : Nat) (hr : RgOk rg) (hrs : ∀ x ∈ res, RgOk x) (hl : res.length ≤ 1000000000000) : RC Try.prog 37 #[.agg (plC rg A res.length c).toArray] [Ch.rd A 4 eb res] (α := Unit) (fun _ => .int .i64 (eC (rg :: res))) (fun _ => []) := by
 refine a6 (args := [.agg (plC rg A res.length c).toArray]) 23 Try.func37 rfl rfl rfl (fun w0 => ?_)
 have hall : ∀ x ∈ [rg] ++ res, RgOk x := fun x hx => (List.mem_append.1 hx).elim (fun h => by rw [List.mem_singleton.1 h]; exact hr) (hrs x)
 have hle : ([rg] ++ res).length = res.length + 1 := by simp
 refine ao ?_
 refine aa ?_
 refine bx rfl rfl rfl (fun b1 => ?_)
 refine ap (ah rfl) rfl rfl ?_
 refine ae ?_
 refine aj ?_
 refine ao ?_
 refine ao ?_
 refine aa ?_
 refine ap (aB eQ rfl) rfl rfl ?_
 refine ap (aM 0 cc rfl rfl rfl rfl) rfl rfl ?_
 refine el (vs := [_]) ([rg] : List (Rg)) enc_rg Try.underlying65 cc rfl rfl rfl rfl rfl rfl (fun As2 => ?_)
 refine ap (aB fJ rfl) rfl rfl ?_
 refine ap (aK 1 ty_65 rfl rfl rfl) rfl rfl ?_
 refine eD (enc := eb) (sz := 4) res Try.underlying65 cc rfl rfl rfl (fun A c => .z) (src_S 0 Try.underlying65 rfl) (by simp only [List.length_cons, List.length_nil]; omega) (by simp only [List.length_cons, List.length_nil]; omega) rfl (fun A2 c2 => ?_)
 refine ap (cp Try.underlying65 rfl) rfl rfl ?_
 refine ap (ak rfl) rfl rfl ?_
 refine ae ?_
 refine aj ?_
 refine aS ?_
 refine dI (σ := Nat) [2, 4, 5, 13, 14, 15, 16, 17, 18, 19, 20, 21, 22] (fun k => k ≤ ([rg] ++ res).length ∧ eC ([rg] ++ res) = eC (([rg] ++ res).drop k)) (fun k => ([rg] ++ res).length - k) (fun k => [(13, .int .i64 k)]) (0) ?_ ⟨rfl, trivial⟩ (fun k hI => ?_)
 exact ⟨Nat.zero_le _, rfl⟩
 refine ao ?_
 refine aa ?_
 refine ap (cE rfl rfl) rfl rfl ?_
 refine aD (t := 14) rfl (fun h2_0 => ?_) (fun h2_0 => ?_)
 have hk : k < ([rg] ++ res).length := by omega
 have hck := cksR_drop hk hI.2
 have hxk := hall _ (cF (d := rg0) hk)
 refine ae ?_
 refine aj ?_
 refine ao ?_
 refine ay rfl ?_
 refine aG ?_
 refine aj ?_
 refine ao ?_
 refine aS ?_
 refine ao ?_
 refine aa ?_
 refine ap (dB  Try.underlying65 cc rfl rfl (rs_L 0 rfl) rfl (by omega)) rfl rfl ?_
 refine ap (y_ldsm0 enc_rg rg0 cc rfl (rs_L 0 rfl) (by omega) rfl rfl rfl) rfl rfl ?_
 refine bc cc rfl rfl (fun b4 => ?_)
 refine aH cc rfl rfl rfl .z rfl rfl rfl rfl ?_
 refine ae ?_
 refine aj ?_
 refine ao ?_
 refine aa ?_
 refine ap (aM 0 cc rfl rfl rfl rfl) rfl rfl ?_
 refine aR rfl ent_77 (c_rCheck (([rg] ++ res).getD k rg0) hxk.lo.1) rfl ?_
 refine ap (ah rfl) rfl rfl ?_
 refine ae ?_
 refine aj ?_
 refine ao ?_
 refine aa ?_
 refine ap (ak rfl) rfl rfl ?_
 refine ap (cQ rfl rfl) rfl rfl ?_
 refine aD (t := 20) rfl (fun h5_1 => ?_) (fun h5_1 => ?_)
 refine ae ?_
 refine aj ?_
 refine ay rfl ?_
 refine ao ?_
 refine aa ?_
 refine ap (ak rfl) rfl rfl ?_
 refine ap (ah rfl) rfl rfl ?_
 refine ae ?_
 refine aj ?_
 refine aC ?_
 refine aU ?_
 refine aA ?_
 refine bH ?_
 refine aU ?_
 refine aA ?_
 refine aJ (ts := [2]) rfl rfl rfl (fun w hw => ?_)
 have hE : eC (rg :: res) = dQ (([rg] ++ res).getD k rg0) := hck.trans (if_pos h5_1)
 exact ⟨(), by rw [hE]; rfl, hw.base, (hw.weak (List.nil_sublist _) (fun s hs => hs)).toNews⟩
 refine ae ?_
 refine aj ?_
 refine av rfl ?_
 refine aG ?_
 refine bA ?_
 refine aj ?_
 refine aa ?_
 refine ap (bQ rfl rfl (by omega) (by omega)) rfl rfl ?_
 refine ap (ak rfl) rfl rfl ?_
 refine ae ?_
 refine bR (k + 1) ?_ ?_ ⟨rfl, trivial⟩ (by repeat (first | exact trivial | refine ⟨rfl, ?_⟩)) (bU 1)
 exact ⟨by omega, by rw [hck, if_neg h5_1]⟩
 omega
 refine ae ?_
 refine aj ?_
 refine ao ?_
 refine av rfl ?_
 refine ce ?_
 refine bf ?_
 refine a7 ?_
 refine bq ?_
 refine aj ?_
 refine ao ?_
 refine aa ?_
 refine ap (ah rfl) rfl rfl ?_
 refine ae ?_
 refine aj ?_
 refine aC ?_
 refine aJ (ts := [2]) rfl rfl rfl (fun w hw => ?_)
 have hE : eC (rg :: res) = 0 := by
   have h9 := hI.2
   rw [List.drop_of_length_le (by omega)] at h9; exact h9
 exact ⟨(), by rw [hE]; rfl, hw.base, (hw.weak (List.nil_sublist _) (fun s hs => hs)).toNews⟩

theorem c_Clone_rg (l : List Rg) (A : Option Addr) (c : Nat) (hl : l.length ≤ 1000000000000) : RC Try.prog 60 #[.slice A l.length c] [Ch.rd A 4 eb l] (α := Option Addr × Nat) (fun p => .slice p.1 l.length p.2) (fun p => [Ch.ls p.1 p.2 64 4 eb l]) := by
 refine a6 (args := [.slice A l.length c]) 8 Try.func60 rfl rfl rfl (fun w0 => ?_)
 refine ao ?_
 refine aa ?_
 refine ap (ah rfl) rfl rfl ?_
 refine ae ?_
 refine aj ?_
 refine ao ?_
 refine ao ?_
 refine aa ?_
 refine ap (ak rfl) rfl rfl ?_
 refine ap (y_eqsn Try.underlying65 rfl rfl) rfl rfl ?_
 refine bp (t := 4) rfl (fun h1_1 => ?_) (fun h1_1 => ?_)
 refine ae ?_
 refine aj ?_
 refine ay rfl ?_
 refine ao ?_
 refine aa ?_
 refine ap (ah rfl) rfl rfl ?_
 refine ae ?_
 refine aj ?_
 refine aC ?_
 refine aA ?_
 refine aJ (ts := [2]) rfl rfl rfl (fun w hw => ?_)
 have hr : RsP A l.length 4 _ w := hw.sh _ List.mem_cons_self
 have h0 : l = [] := List.length_eq_zero_iff.1 (rs_none hr h1_1)
 subst h0
 exact ⟨(none, 0), rfl, hw.base, (hw.nilsl 64 4).toNews⟩
 refine ae ?_
 refine aj ?_
 refine av rfl ?_
 refine aG ?_
 refine aj ?_
 refine ao ?_
 refine aa ?_
 refine el (vs := []) ([] : List (Rg)) enc_rg Try.underlying65 cc rfl rfl rfl rfl rfl rfl (fun As1 => ?_)
 refine ap (ak rfl) rfl rfl ?_
 refine eD (enc := eb) (sz := 4) l Try.underlying65 cc rfl rfl rfl (fun A c => .z) (src_S 0 Try.underlying65 rfl) (by simp only [List.length_cons, List.length_nil, Nat.zero_add]; omega) (by simp only [List.length_cons, List.length_nil, Nat.zero_add]; omega) rfl (fun A1 c1 => ?_)
 refine ap (ah rfl) rfl rfl ?_
 refine ae ?_
 refine aj ?_
 refine aC ?_
 refine aJ (ts := [2]) rfl rfl rfl (fun w hw => ?_)
 exact ⟨(A1, c1), rfl, hw.base, hw.toNews⟩

theorem c_vhost (n : aL) : cI Try.prog 62 #[.string (ba n)] (.bool (bZ n)) := by
 intro w0
 refine aX (ok0 := no) (S := []) (args := [.string (ba n)]) 10 Try.func62 rfl rfl rfl (by simp) (by simp) ?_
 refine ao ?_
 refine aa ?_
 refine ap (ah rfl) rfl rfl ?_
 refine ae ?_
 refine aj ?_
 refine ao ?_
 refine aa ?_
 refine ap (ak rfl) rfl rfl ?_
 refine ap (y_neqs rfl rfl) rfl rfl ?_
 refine aD (t := 4) rfl (fun h1_1 => ?_) (fun h1_1 => ?_)
 refine ap (ak rfl) rfl rfl ?_
 refine az rfl rfl ?_
 refine ap (ak rfl) rfl rfl ?_
 refine az rfl rfl ?_
 refine aR rfl ent_56 (fG _) rfl ?_
 refine az rfl rfl ?_
 refine ap (cH rfl rfl) rfl rfl ?_
 refine ap (aQ rfl rfl) rfl rfl ?_
 refine ap (ah rfl) rfl rfl ?_
 refine ae ?_
 refine aj ?_
 refine aC ?_
 refine aJ (ts := [2]) rfl rfl rfl (fun w hw => ?_)
 refine ⟨?_, hw.base⟩
 show Ending.returned (.bool _) = _
 congr 2
 focus first
   | (rw [bZ, decide_eq_true h1_1]; rfl)
   | (rw [bZ, decide_eq_false h1_1]; rfl)
   | (trace_state; fail)
 refine ap (ak rfl) rfl rfl ?_
 refine bg rfl rfl rfl rfl ?_
 refine bg rfl rfl rfl rfl ?_
 refine bg rfl rfl rfl rfl ?_
 refine ap (a2 rfl rfl) rfl rfl ?_
 refine ap (ah rfl) rfl rfl ?_
 refine ae ?_
 refine aj ?_
 refine aC ?_
 refine aJ (ts := [2]) rfl rfl rfl (fun w hw => ?_)
 refine ⟨?_, hw.base⟩
 show Ending.returned (.bool _) = _
 congr 2
 focus first
   | (rw [bZ, decide_eq_true h1_1]; rfl)
   | (rw [bZ, decide_eq_false h1_1]; rfl)
   | (trace_state; fail)

set_option maxRecDepth 100000 in
theorem c_vFree (v : Vp) (hm : Hm) (hv : VOk v) (hml : hm.length ≤ 1000000) : RC Try.prog 35 #[.pointer (some ⟨v.b, 0, none⟩)] [Ch.row v.b (vpC v) 113, Ch.mp v.rh bB bM hm] (α := Unit) (fun _ => .int .i64 (v.room - hm.length)) (fun _ => []) := by
 refine a6 (args := [.pointer (some ⟨v.b, 0, none⟩)]) 15 Try.func35 rfl rfl rfl (fun w0 => ?_)
 refine ao ?_
 refine aa ?_
 refine ap (ah rfl) rfl rfl ?_
 refine ae ?_
 refine aj ?_
 refine ao ?_
 refine ao ?_
 refine aa ?_
 refine ap (ak rfl) rfl rfl ?_
 refine ap (eB Try.underlying57 rfl rfl) rfl rfl ?_
 refine bv (t := 4) (.bool false) rfl (congrArg Value.bool rfl) ?_
 refine ae ?_
 refine aj ?_
 refine av rfl ?_
 refine aG ?_
 refine aj ?_
 refine ao ?_
 refine dw 11 rfl mixed ?_
 have hvr := hv.room
 refine au (i := 0) rfl ab (ak rfl) ar ar rfl (ai aq) (by kernel_rfl) rfl ?_
 refine au (i := 1) rfl ab (aO rfl) ar ar rfl (ai aq) (by kernel_rfl) rfl ?_
 refine au (i := 2) rfl ab (aB fa_113_3 rfl) ar ar rfl (ai aq) (by kernel_rfl) rfl ?_
 refine au (i := 3) rfl ab (bd 0 ew rfl rfl rfl) ar ar rfl (ai aq) (by kernel_rfl) rfl ?_
 refine au (i := 4) rfl ab (ak rfl) ar ar rfl (ai aq) (by kernel_rfl) rfl ?_
 refine au (i := 5) rfl ab (aO rfl) ar ar rfl (ai aq) (by kernel_rfl) rfl ?_
 refine au (i := 6) rfl ab (aB ck rfl) ar ar rfl (ai aq) (by kernel_rfl) rfl ?_
 refine au (i := 7) rfl ab (bd 0 c4 rfl rfl rfl) ar ar rfl (ai aq) (by kernel_rfl) rfl ?_
 refine au (i := 8) rfl ab (y_lenmp (encK := bB) (encV := bM) Try.underlying109 rfl (fun w hw => hw.sh _ (List.mem_of_getElem? (i := 1) rfl))) ar ar rfl (ai aq) (by kernel_rfl) rfl ?_
 refine au (i := 9) rfl ab (y_subi rfl rfl (by omega) (by omega)) ar ar rfl (ai aq) (by kernel_rfl) rfl ?_
 refine au (i := 10) rfl ab (ah rfl) ar ar rfl (ai aq) (by kernel_rfl) rfl ?_
 refine cj (by kernel_rfl) ?_
 refine aj ?_
 refine aC ?_
 refine aJ (ts := [2]) rfl rfl rfl (fun w hw => ?_)
 exact ⟨(), rfl, hw.base, (hw.weak (List.nil_sublist _) (fun s hs => hs)).toNews⟩

set_option maxRecDepth 100000 in
theorem c_vfree (v : Vp) (am : Am) (a : Ad) (hv : VOk v) (ha : 0 ≤ a.lo) : RC Try.prog 70 #[.pointer (some ⟨v.b, 0, none⟩), .agg (dC a).toArray] [Ch.row v.b (vpC v) 113, Ch.rd v.A 4 eb v.res, Ch.mp v.ra dD bB am] (α := Unit) (fun _ => .bool (em v.res am a)) (fun _ => []) := by
 refine a6 (args := [.pointer (some ⟨v.b, 0, none⟩), .agg (dC a).toArray]) 25 Try.func70 rfl rfl rfl (fun w0 => ?_)
 refine ao ?_
 refine aa ?_
 refine bx rfl rfl rfl (fun b1 => ?_)
 refine ap (ah rfl) rfl rfl ?_
 refine ae ?_
 refine aj ?_
 refine ao ?_
 refine ao ?_
 refine eM 11 rfl mixed ?_
 refine aI (i := 0) rfl ab (ak rfl) ar ar rfl (ai (ai aq)) (by kernel_rfl) rfl ?_
 refine aI (i := 1) rfl ab (aO rfl) ar ar rfl (ai (ai aq)) (by kernel_rfl) rfl ?_
 refine aI (i := 2) rfl ab (aB d3 rfl) ar ar rfl (ai (ai aq)) (by kernel_rfl) rfl ?_
 refine aI (i := 3) rfl ab (bd 0 ty_110 rfl rfl rfl) ar ar rfl (ai (ai aq)) (by kernel_rfl) rfl ?_
 refine aI (i := 4) rfl ab (aM 0 aF rfl rfl rfl rfl) ar ar rfl (ai (ai aq)) (by kernel_rfl) rfl ?_
 refine cg (i := 5) rfl rfl rfl (fun _ _ _ => a8 (by kernel_rfl)) (by kernel_rfl) rfl ?_
 refine ap (cR Try.underlying110 fj bE rfl rfl (fun w hw => hw.sh _ (List.mem_of_getElem? (i := 2) rfl))) rfl rfl ?_
 refine ae ?_
 refine bk ar ?_
 refine wu_as (t := 13) (.tuple #[.string (ba ((bN am a).getD [])), .bool (bN am a).isSome]) rfl look2_n ?_
 refine aI (i := 6) rfl ab (ak rfl) ar ar rfl (ai (ai aq)) (by kernel_rfl) rfl ?_
 refine aI (i := 7) rfl ab (aw rfl rfl) ar ar rfl (ai (ai aq)) (by kernel_rfl) rfl ?_
 refine aI (i := 8) rfl ab (aw rfl rfl) ar ar rfl (ai (ai aq)) (by kernel_rfl) rfl ?_
 refine wu_splitb (t := 15) rfl (fun h1_8 => ?_) (fun h1_8 => ?_)
 refine aI (i := 9) rfl ab (ah rfl) ar ar rfl (ai (ai aq)) (by kernel_rfl) rfl ?_
 refine aI (i := 10) rfl ab (ah rfl) ar ar rfl (ai (ai aq)) (by kernel_rfl) rfl ?_
 refine cM (by kernel_rfl) ?_
 refine aj ?_
 refine ao ?_
 refine aa ?_
 refine ap (ak rfl) rfl rfl ?_
 refine ae ?_
 refine aj ?_
 refine ay rfl ?_
 refine ao ?_
 refine aa ?_
 refine ap (ah rfl) rfl rfl ?_
 refine ae ?_
 refine aj ?_
 refine aC ?_
 refine aA ?_
 refine aJ (ts := [4]) rfl rfl rfl (fun w hw => ?_)
 refine ⟨(), ?_, hw.base, (hw.weak (List.nil_sublist _) (fun s hs => hs)).toNews⟩
 show Ending.returned (.bool _) = _
 congr 2
 focus first
   | (rw [em, h1_8]; rfl)
   | (trace_state; fail)
 refine aI (i := 9) rfl ab (ah rfl) ar ar rfl (ai (ai aq)) (by kernel_rfl) rfl ?_
 refine aI (i := 10) rfl ab (ah rfl) ar ar rfl (ai (ai aq)) (by kernel_rfl) rfl ?_
 refine cM (by kernel_rfl) ?_
 refine aj ?_
 refine ao ?_
 refine aa ?_
 refine ap (ak rfl) rfl rfl ?_
 refine ae ?_
 refine aj ?_
 refine av rfl ?_
 refine aG ?_
 refine aj ?_
 refine ao ?_
 refine aa ?_
 refine ap (ak rfl) rfl rfl ?_
 refine ap (aO rfl) rfl rfl ?_
 refine ap (aB d6 rfl) rfl rfl ?_
 refine ap (aB fJ rfl) rfl rfl ?_
 refine ap (bd 0 ty_65 rfl rfl rfl) rfl rfl ?_
 refine ap (cO rfl rfl) rfl rfl ?_
 refine bi rfl ent_100 rfl (c_cntV v.res v.A v.c a b1 hv.res ha hv.len) (fun w hw => (aN (cL 1 rfl hw) (aN (d7 0 rfl hw) aY))) ?_
 refine ap (bG rfl) rfl rfl ?_
 refine ap (ah rfl) rfl rfl ?_
 refine ae ?_
 refine aj ?_
 refine aC ?_
 refine aJ (ts := [4]) rfl rfl rfl (fun w hw => ?_)
 refine ⟨(), ?_, hw.base, (hw.weak (List.nil_sublist _) (fun s hs => hs)).toNews⟩
 show Ending.returned (.bool _) = _
 congr 2
 focus first
   | (rw [em, h1_8]; rfl)
   | (trace_state; fail)

set_option maxRecDepth 100000 in
theorem c_vdrop (v : Vp) (hm : Hm) (am : Am) (key : aL) : UC Try.prog 66 #[.pointer (some ⟨v.b, 0, none⟩), .string (ba key)] [Ch.row v.b (vpC v) 113] (vmC v hm am) (α := Unit) (fun _ => .tuple #[]) (fun _ => vmC v (fA hm am key).1 (fA hm am key).2) := by
 refine dN (args := [.pointer (some ⟨v.b, 0, none⟩), .string (ba key)]) 20 Try.func66 rfl rfl rfl (fun w0 => ?_)
 refine cK (fun w h => h.untwo) ?_
 refine ao ?_
 refine eM 11 rfl mixed ?_
 refine aI (i := 0) rfl ab (ak rfl) ar ar rfl (ai aq) (by kernel_rfl) rfl ?_
 refine aI (i := 1) rfl ab (aO rfl) ar ar rfl (ai aq) (by kernel_rfl) rfl ?_
 refine aI (i := 2) rfl ab (aB d3 rfl) ar ar rfl (ai aq) (by kernel_rfl) rfl ?_
 refine aI (i := 3) rfl ab (bd 0 ty_110 rfl rfl rfl) ar ar rfl (ai aq) (by kernel_rfl) rfl ?_
 refine aI (i := 4) rfl ab (ak rfl) ar ar rfl (ai aq) (by kernel_rfl) rfl ?_
 refine aI (i := 5) rfl ab (aO rfl) ar ar rfl (ai aq) (by kernel_rfl) rfl ?_
 refine aI (i := 6) rfl ab (aB ck rfl) ar ar rfl (ai aq) (by kernel_rfl) rfl ?_
 refine aI (i := 7) rfl ab (bd 0 c4 rfl rfl rfl) ar ar rfl (ai aq) (by kernel_rfl) rfl ?_
 refine aI (i := 8) rfl ab (ak rfl) ar ar rfl (ai aq) (by kernel_rfl) rfl ?_
 refine cg (i := 9) rfl rfl rfl (fun _ _ _ => a8 (by kernel_rfl)) (by kernel_rfl) rfl ?_
 refine ap (fH Try.underlying109 (bO Try.underlying37) br rfl rfl (fun w hw => hw.own _ (List.mem_of_getElem? (i := 0) rfl))) rfl rfl ?_
 refine ae ?_
 refine bk ar ?_
 refine wu_as (t := 13) (.agg (hdC ((bN hm key).getD eu)).toArray) rfl look1_hd ?_
 refine aI (i := 10) rfl ab (y_fieldv (v := .agg (dC ((bN hm key).getD eu).ad).toArray) rfl (fun w => by kernel_rfl)) ar ar rfl (ai aq) (by kernel_rfl) rfl ?_
 refine cg (i := 11) rfl rfl rfl (fun _ _ _ => a8 (by kernel_rfl)) (by kernel_rfl) rfl ?_
 refine o_mapDel (encK := dD) (encV := bB) (a := ((bN hm key).getD eu).ad) Try.underlying110 fj rfl rfl (.s (.z)) ?_
 refine ae ?_
 refine eu_tail rfl ?_
 refine cM (by kernel_rfl) ?_
 refine aj ?_
 refine aa ?_
 refine ap (ak rfl) rfl rfl ?_
 refine ap (aO rfl) rfl rfl ?_
 refine ap (aB ck rfl) rfl rfl ?_
 refine ap (bd 0 c4 rfl rfl rfl) rfl rfl ?_
 refine ap (ak rfl) rfl rfl ?_
 refine o_mapDel (encK := bB) (encV := bM) (a := key) Try.underlying109 (bO Try.underlying37) rfl rfl .z ?_
 refine ae ?_
 refine fM (ts := []) rfl rfl rfl (fun w hw => ?_)
 obtain ⟨h1, h2, h3⟩ := hw.two.uc
 exact ⟨(), rfl, h1, h2, h3⟩

theorem c_vDrop (v : Vp) (hm : Hm) (am : Am) (n : aL) (hn : n.length ≤ 1000000000) : UC Try.prog 33 #[.pointer (some ⟨v.b, 0, none⟩), .string (ba n)] [Ch.row v.b (vpC v) 113] (vmC v hm am) (α := Unit) (fun o => .int .i64 (ct hm am n).1) (fun o => vmC v (ct hm am n).2.1 (ct hm am n).2.2) := by
 refine dN (args := [.pointer (some ⟨v.b, 0, none⟩), .string (ba n)]) 31 Try.func33 rfl rfl rfl (fun w0 => ?_)
 refine cK (fun w h => h.untwo) ?_
 refine ao ?_
 refine aa ?_
 refine ap (ah rfl) rfl rfl ?_
 refine ae ?_
 refine aj ?_
 refine ao ?_
 refine aS ?_
 refine ao ?_
 refine aa ?_
 refine ap (ak rfl) rfl rfl ?_
 refine ap (eB Try.underlying57 rfl rfl) rfl rfl ?_
 refine bv (t := 10) (.bool false) rfl (congrArg Value.bool rfl) ?_
 refine ap (ah rfl) rfl rfl ?_
 refine ae ?_
 refine aj ?_
 refine av rfl ?_
 refine ao ?_
 refine aa ?_
 refine ap (ak rfl) rfl rfl ?_
 refine aR rfl ent_62 (c_vhost _) rfl ?_
 refine bp (t := 13) rfl (fun h3_1 => ?_) (fun h3_1 => ?_)
 refine ap (bG rfl) rfl rfl ?_
 refine ap (ah rfl) rfl rfl ?_
 refine ae ?_
 refine aj ?_
 refine av rfl ?_
 refine aG ?_
 refine bA ?_
 refine aj ?_
 refine ao ?_
 refine aa ?_
 refine ap (ak rfl) rfl rfl ?_
 refine aR rfl ek (cz _ (by omega)) rfl ?_
 refine ap (ah rfl) rfl rfl ?_
 refine ae ?_
 refine aj ?_
 refine ao ?_
 refine ao ?_
 refine aa ?_
 refine ap (ak rfl) rfl rfl ?_
 refine ap (aO rfl) rfl rfl ?_
 refine ap (aB ck rfl) rfl rfl ?_
 refine ap (bd 0 c4 rfl rfl rfl) rfl rfl ?_
 refine ap (ak rfl) rfl rfl ?_
 refine ap (cR Try.underlying109 (bO Try.underlying37) br rfl rfl (fun w hw => hw.own _ (List.mem_of_getElem? (i := 0) rfl))) rfl rfl ?_
 refine bv (t := 23) (.tuple #[.agg (hdC ((bN hm (aT n)).getD eu)).toArray, .bool (bN hm (aT n)).isSome]) rfl d8 ?_
 refine ap (ak rfl) rfl rfl ?_
 refine ap (aw rfl rfl) rfl rfl ?_
 refine ap (aw rfl rfl) rfl rfl ?_
 refine bp (t := 25) rfl (fun h6_8 => ?_) (fun h6_8 => ?_)
 refine bc br rfl rfl (fun b1 => ?_)
 refine aH br rfl rfl rfl .z rfl rfl rfl rfl ?_
 refine ap (ah rfl) rfl rfl ?_
 refine ae ?_
 refine aj ?_
 refine ao ?_
 refine aa ?_
 refine ap (ak rfl) rfl rfl ?_
 refine ap (bG rfl) rfl rfl ?_
 refine ae ?_
 refine aj ?_
 refine av rfl ?_
 refine aG ?_
 refine aj ?_
 refine ao ?_
 refine aa ?_
 refine ap (ak rfl) rfl rfl ?_
 refine ap (ak rfl) rfl rfl ?_
 refine bD (fun w h => h.f2.f2.two) ?_
 refine bI rfl ent_66 rfl (c_vdrop v hm am (aT n)) (fun o => .z) (List.mem_of_getElem? (i := 0) rfl) (fun s hs => (List.mem_singleton.1 hs) ▸ .head _) (fun o1 => ?_)
 refine bD (fun w h => h.untwo) ?_
 refine ae ?_
 refine aj ?_
 refine ao ?_
 refine aa ?_
 refine ap (ah rfl) rfl rfl ?_
 refine ae ?_
 refine aj ?_
 refine aC ?_
 refine aJ (ts := [4]) rfl rfl rfl (fun w hw => ?_)
 obtain ⟨h1, h2, h3⟩ := (hw.weak (.cons_cons _ (.cons_cons _ (.cons _ .slnil))) (fun s hs => hs)).f1.f1.two.uc
 focus first
   | (have hE : ct hm am n = (2, hm, am) := if_pos h3_1
      rw [hE]
      exact ⟨(), rfl, h1, h2, h3⟩)
   | (have hE : ct hm am n = (5, hm, am) := by rw [ct, if_neg (by rw [h3_1]; decide), if_pos h6_8]
      rw [hE]
      exact ⟨(), rfl, h1, h2, h3⟩)
   | (have hE : ct hm am n = (0, fA hm am (aT n)) := by rw [ct, if_neg (by rw [h3_1]; decide), if_neg (by rw [h6_8]; decide)]
      rw [hE]
      exact ⟨(), rfl, h1, h2, h3⟩)
   | (trace_state; fail)
 refine bc br rfl rfl (fun b3 => ?_)
 refine aH br rfl rfl rfl .z rfl rfl rfl rfl ?_
 refine ap (ah rfl) rfl rfl ?_
 refine ae ?_
 refine aj ?_
 refine ao ?_
 refine aa ?_
 refine ap (ak rfl) rfl rfl ?_
 refine ap (bG rfl) rfl rfl ?_
 refine ae ?_
 refine aj ?_
 refine ay rfl ?_
 refine ao ?_
 refine aa ?_
 refine ap (ah rfl) rfl rfl ?_
 refine ae ?_
 refine aj ?_
 refine aC ?_
 refine aA ?_
 refine aJ (ts := [4]) rfl rfl rfl (fun w hw => ?_)
 obtain ⟨h1, h2, h3⟩ := (hw.weak (.cons _ (.cons_cons _ (.cons_cons _ .slnil))) (fun s hs => hs)).f1.f1.two.uc
 focus first
   | (have hE : ct hm am n = (2, hm, am) := if_pos h3_1
      rw [hE]
      exact ⟨(), rfl, h1, h2, h3⟩)
   | (have hE : ct hm am n = (5, hm, am) := by rw [ct, if_neg (by rw [h3_1]; decide), if_pos h6_8]
      rw [hE]
      exact ⟨(), rfl, h1, h2, h3⟩)
   | (have hE : ct hm am n = (0, fA hm am (aT n)) := by rw [ct, if_neg (by rw [h3_1]; decide), if_neg (by rw [h6_8]; decide)]
      rw [hE]
      exact ⟨(), rfl, h1, h2, h3⟩)
   | (trace_state; fail)
 refine ap (bG rfl) rfl rfl ?_
 refine ap (ah rfl) rfl rfl ?_
 refine ae ?_
 refine aj ?_
 refine ay rfl ?_
 refine ao ?_
 refine aa ?_
 refine ap (ah rfl) rfl rfl ?_
 refine ae ?_
 refine aj ?_
 refine aC ?_
 refine aU ?_
 refine aA ?_
 refine aJ (ts := [4]) rfl rfl rfl (fun w hw => ?_)
 obtain ⟨h1, h2, h3⟩ := (hw.weak (.cons_cons _ (.cons_cons _ .slnil)) (fun s hs => hs)).f1.f1.two.uc
 focus first
   | (have hE : ct hm am n = (2, hm, am) := if_pos h3_1
      rw [hE]
      exact ⟨(), rfl, h1, h2, h3⟩)
   | (have hE : ct hm am n = (5, hm, am) := by rw [ct, if_neg (by rw [h3_1]; decide), if_pos h6_8]
      rw [hE]
      exact ⟨(), rfl, h1, h2, h3⟩)
   | (have hE : ct hm am n = (0, fA hm am (aT n)) := by rw [ct, if_neg (by rw [h3_1]; decide), if_neg (by rw [h6_8]; decide)]
      rw [hE]
      exact ⟨(), rfl, h1, h2, h3⟩)
   | (trace_state; fail)

set_option maxRecDepth 100000 in
theorem c_vOf (v : Vp) (hm : Hm) (n : aL) (hn : n.length ≤ 1000000000) : RC Try.prog 30 #[.pointer (some ⟨v.b, 0, none⟩), .string (ba n)] [Ch.row v.b (vpC v) 113, Ch.mp v.rh bB bM hm] (α := Unit) (fun _ => .tuple #[.agg (dC (ofV hm n).1).toArray, .bool (ofV hm n).2]) (fun _ => []) := by
 refine a6 (args := [.pointer (some ⟨v.b, 0, none⟩), .string (ba n)]) 29 Try.func30 rfl rfl rfl (fun w0 => ?_)
 refine ao ?_
 refine aa ?_
 refine bc aF rfl rfl (fun b1 => ?_)
 refine ap (ah rfl) rfl rfl ?_
 refine ae ?_
 refine aj ?_
 refine ao ?_
 refine ao ?_
 refine aa ?_
 refine ap (ak rfl) rfl rfl ?_
 refine ap (eB Try.underlying57 rfl rfl) rfl rfl ?_
 refine bv (t := 9) (.bool false) rfl (congrArg Value.bool rfl) ?_
 refine ap (ak rfl) rfl rfl ?_
 refine az rfl rfl ?_
 refine ap (ak rfl) rfl rfl ?_
 refine az rfl rfl ?_
 refine aR rfl ent_62 (c_vhost _) rfl ?_
 refine bp (t := 12) rfl (fun h1_4 => ?_) (fun h1_4 => ?_)
 refine az rfl rfl ?_
 refine ap (bG rfl) rfl rfl ?_
 refine ap (a2 rfl rfl) rfl rfl ?_
 refine ae ?_
 refine aj ?_
 refine av rfl ?_
 refine aG ?_
 refine aj ?_
 refine ao ?_
 refine eM 13 rfl mixed ?_
 refine aI (i := 0) rfl ab (ak rfl) ar ar rfl (ai aq) (by kernel_rfl) rfl ?_
 refine aI (i := 1) rfl ab (aO rfl) ar ar rfl (ai aq) (by kernel_rfl) rfl ?_
 refine aI (i := 2) rfl ab (aB ck rfl) ar ar rfl (ai aq) (by kernel_rfl) rfl ?_
 refine aI (i := 3) rfl ab (bd 0 c4 rfl rfl rfl) ar ar rfl (ai aq) (by kernel_rfl) rfl ?_
 refine aI (i := 4) rfl ab (ak rfl) ar ar rfl (ai aq) (by kernel_rfl) rfl ?_
 refine fe (js := [5, 10]) (by kernel_rfl) rfl ?_
 refine bW (i := 5) rfl rfl rfl (bb rfl ek) rfl ?_ ?_
 refine aR rfl ek (cz _ (by omega)) rfl ?_
 refine ae ?_
 refine bk ar ?_
 refine fe (js := [6, 10]) (by kernel_rfl) rfl ?_
 refine bW (i := 6) rfl rfl rfl (fun _ _ _ => a8 (by kernel_rfl)) rfl ?_ ?_
 refine ap (cR Try.underlying109 (bO Try.underlying37) br rfl rfl (fun w hw => hw.sh _ (List.mem_of_getElem? (i := 1) rfl))) rfl rfl ?_
 refine ae ?_
 refine bk ar ?_
 refine wu_as (t := 23) (.tuple #[.agg (hdC ((bN hm (aT n)).getD eu)).toArray, .bool (bN hm (aT n)).isSome]) rfl d8 ?_
 refine aI (i := 7) rfl ab (ak rfl) ar ar rfl (ai aq) (by kernel_rfl) rfl ?_
 refine aI (i := 8) rfl ab (aw rfl rfl) ar ar rfl (ai aq) (by kernel_rfl) rfl ?_
 refine aI (i := 9) rfl ab (aw rfl rfl) ar ar rfl (ai aq) (by kernel_rfl) rfl ?_
 refine cg (i := 10) rfl rfl rfl (fun _ _ _ => a8 (by kernel_rfl)) (by kernel_rfl) rfl ?_
 refine bc br rfl rfl (fun b2 => ?_)
 refine ae ?_
 refine bk (bU 1) ?_
 refine cg (i := 11) rfl rfl rfl (fun _ _ _ => a8 (by kernel_rfl)) (by kernel_rfl) rfl ?_
 refine aH br rfl rfl rfl .z rfl rfl rfl rfl ?_
 refine ae ?_
 refine bk (bU 1) ?_
 refine aI (i := 12) rfl ab (ah rfl) (bU 1) ar rfl (ai aq) (by kernel_rfl) rfl ?_
 refine cM (by kernel_rfl) ?_
 refine aj ?_
 refine ao ?_
 refine aa ?_
 refine ap (aB dA rfl) rfl rfl ?_
 refine ap (aM 0 aF rfl rfl rfl rfl) rfl rfl ?_
 refine ap (ak rfl) rfl rfl ?_
 refine aH aF rfl rfl rfl (.s (.z)) rfl rfl rfl rfl ?_
 refine ap (ah rfl) rfl rfl ?_
 refine ae ?_
 refine aj ?_
 refine aC ?_
 refine de (rs := [.cell 4 62, .tmp 5]) rfl (bh 1 aF rfl rfl rfl rfl (co rfl bz)) rfl (fun w hw => ?_)
 focus first
   | (have hE : ofV hm n = (ad0, false) := if_pos h1_4
      rw [hE]
      exact ⟨(), rfl, hw.base, (hw.weak (List.nil_sublist _) (fun s hs => hs)).toNews⟩)
   | (have hE : ofV hm n = (((bN hm (aT n)).getD eu).ad, (bN hm (aT n)).isSome) := if_neg (by rw [h1_4]; decide)
      rw [hE]
      exact ⟨(), rfl, hw.base, (hw.weak (List.nil_sublist _) (fun s hs => hs)).toNews⟩)
   | (trace_state; fail)
 refine bW (i := 10) rfl rfl rfl (fun _ _ _ => a8 (by kernel_rfl)) rfl ?_ ?_
 refine bc br rfl rfl (fun b3 => ?_)
 refine ae ?_
 refine bk (bU 1) ?_
 refine cg (i := 6) rfl rfl rfl (fun _ _ _ => a8 (by kernel_rfl)) (by kernel_rfl) rfl ?_
 refine ap (cR Try.underlying109 (bO Try.underlying37) br rfl rfl (fun w hw => hw.sh _ (List.mem_of_getElem? (i := 1) rfl))) rfl rfl ?_
 refine ae ?_
 refine bk (bU 1) ?_
 refine wu_as (t := 23) (.tuple #[.agg (hdC ((bN hm (aT n)).getD eu)).toArray, .bool (bN hm (aT n)).isSome]) rfl d8 ?_
 refine aI (i := 7) rfl ab (ak rfl) (bU 1) ar rfl (ai aq) (by kernel_rfl) rfl ?_
 refine aI (i := 8) rfl ab (aw rfl rfl) (bU 1) ar rfl (ai aq) (by kernel_rfl) rfl ?_
 refine aI (i := 9) rfl ab (aw rfl rfl) (bU 1) ar rfl (ai aq) (by kernel_rfl) rfl ?_
 refine cg (i := 11) rfl rfl rfl (fun _ _ _ => a8 (by kernel_rfl)) (by kernel_rfl) rfl ?_
 refine aH br rfl rfl rfl .z rfl rfl rfl rfl ?_
 refine ae ?_
 refine bk (bU 1) ?_
 refine aI (i := 12) rfl ab (ah rfl) (bU 1) ar rfl (ai aq) (by kernel_rfl) rfl ?_
 refine cM (by kernel_rfl) ?_
 refine aj ?_
 refine ao ?_
 refine aa ?_
 refine ap (aB dA rfl) rfl rfl ?_
 refine ap (aM 0 aF rfl rfl rfl rfl) rfl rfl ?_
 refine ap (ak rfl) rfl rfl ?_
 refine aH aF rfl rfl rfl (.s (.z)) rfl rfl rfl rfl ?_
 refine ap (ah rfl) rfl rfl ?_
 refine ae ?_
 refine aj ?_
 refine aC ?_
 refine de (rs := [.cell 4 62, .tmp 5]) rfl (bh 1 aF rfl rfl rfl rfl (co rfl bz)) rfl (fun w hw => ?_)
 focus first
   | (have hE : ofV hm n = (ad0, false) := if_pos h1_4
      rw [hE]
      exact ⟨(), rfl, hw.base, (hw.weak (List.nil_sublist _) (fun s hs => hs)).toNews⟩)
   | (have hE : ofV hm n = (((bN hm (aT n)).getD eu).ad, (bN hm (aT n)).isSome) := if_neg (by rw [h1_4]; decide)
      rw [hE]
      exact ⟨(), rfl, hw.base, (hw.weak (List.nil_sublist _) (fun s hs => hs)).toNews⟩)
   | (trace_state; fail)
 exact ef
 refine bW (i := 10) rfl rfl rfl (fun _ _ _ => a8 (by kernel_rfl)) rfl ?_ ?_
 refine bc br rfl rfl (fun b4 => ?_)
 refine ae ?_
 refine bk (bU 1) ?_
 refine cg (i := 5) rfl rfl rfl (bb rfl ek) (by kernel_rfl) rfl ?_
 refine aR rfl ek (cz _ (by omega)) rfl ?_
 refine ae ?_
 refine bk (bU 1) ?_
 refine cg (i := 6) rfl rfl rfl (fun _ _ _ => a8 (by kernel_rfl)) (by kernel_rfl) rfl ?_
 refine ap (cR Try.underlying109 (bO Try.underlying37) br rfl rfl (fun w hw => hw.sh _ (List.mem_of_getElem? (i := 1) rfl))) rfl rfl ?_
 refine ae ?_
 refine bk (bU 1) ?_
 refine wu_as (t := 23) (.tuple #[.agg (hdC ((bN hm (aT n)).getD eu)).toArray, .bool (bN hm (aT n)).isSome]) rfl d8 ?_
 refine aI (i := 7) rfl ab (ak rfl) (bU 1) ar rfl (ai aq) (by kernel_rfl) rfl ?_
 refine aI (i := 8) rfl ab (aw rfl rfl) (bU 1) ar rfl (ai aq) (by kernel_rfl) rfl ?_
 refine aI (i := 9) rfl ab (aw rfl rfl) (bU 1) ar rfl (ai aq) (by kernel_rfl) rfl ?_
 refine cg (i := 11) rfl rfl rfl (fun _ _ _ => a8 (by kernel_rfl)) (by kernel_rfl) rfl ?_
 refine aH br rfl rfl rfl .z rfl rfl rfl rfl ?_
 refine ae ?_
 refine bk (bU 1) ?_
 refine aI (i := 12) rfl ab (ah rfl) (bU 1) ar rfl (ai aq) (by kernel_rfl) rfl ?_
 refine cM (by kernel_rfl) ?_
 refine aj ?_
 refine ao ?_
 refine aa ?_
 refine ap (aB dA rfl) rfl rfl ?_
 refine ap (aM 0 aF rfl rfl rfl rfl) rfl rfl ?_
 refine ap (ak rfl) rfl rfl ?_
 refine aH aF rfl rfl rfl (.s (.z)) rfl rfl rfl rfl ?_
 refine ap (ah rfl) rfl rfl ?_
 refine ae ?_
 refine aj ?_
 refine aC ?_
 refine de (rs := [.cell 4 62, .tmp 5]) rfl (bh 1 aF rfl rfl rfl rfl (co rfl bz)) rfl (fun w hw => ?_)
 focus first
   | (have hE : ofV hm n = (ad0, false) := if_pos h1_4
      rw [hE]
      exact ⟨(), rfl, hw.base, (hw.weak (List.nil_sublist _) (fun s hs => hs)).toNews⟩)
   | (have hE : ofV hm n = (((bN hm (aT n)).getD eu).ad, (bN hm (aT n)).isSome) := if_neg (by rw [h1_4]; decide)
      rw [hE]
      exact ⟨(), rfl, hw.base, (hw.weak (List.nil_sublist _) (fun s hs => hs)).toNews⟩)
   | (trace_state; fail)
 exact ef
 refine az rfl rfl ?_
 refine ap (bG rfl) rfl rfl ?_
 refine ap (a2 rfl rfl) rfl rfl ?_
 refine ae ?_
 refine aj ?_
 refine ay rfl ?_
 refine ao ?_
 refine aa ?_
 refine ap (bl rfl (d5)) rfl rfl ?_
 refine aH aF rfl rfl rfl .z rfl rfl rfl rfl ?_
 refine ap (ah rfl) rfl rfl ?_
 refine ae ?_
 refine aj ?_
 refine aC ?_
 refine aA ?_
 refine de (rs := [.cell 4 62, .tmp 5]) rfl (bh 0 aF rfl rfl rfl rfl (co rfl bz)) rfl (fun w hw => ?_)
 focus first
   | (have hE : ofV hm n = (ad0, false) := if_pos h1_4
      rw [hE]
      exact ⟨(), rfl, hw.base, (hw.weak (List.nil_sublist _) (fun s hs => hs)).toNews⟩)
   | (have hE : ofV hm n = (((bN hm (aT n)).getD eu).ad, (bN hm (aT n)).isSome) := if_neg (by rw [h1_4]; decide)
      rw [hE]
      exact ⟨(), rfl, hw.base, (hw.weak (List.nil_sublist _) (fun s hs => hs)).toNews⟩)
   | (trace_state; fail)

set_option maxRecDepth 100000 in
theorem c_vHost (v : Vp) (hm : Hm) (am : Am) (a : Ad) : RC Try.prog 34 #[.pointer (some ⟨v.b, 0, none⟩), .agg (dC a).toArray] [Ch.row v.b (vpC v) 113, Ch.mp v.rh bB bM hm, Ch.mp v.ra dD bB am] (α := Unit) (fun _ => .tuple #[.string (ba (hostV hm am a).1), .bool (hostV hm am a).2]) (fun _ => []) := by
 refine a6 (args := [.pointer (some ⟨v.b, 0, none⟩), .agg (dC a).toArray]) 28 Try.func34 rfl rfl rfl (fun w0 => ?_)
 refine ao ?_
 refine aa ?_
 refine bx rfl rfl rfl (fun b1 => ?_)
 refine ap (ah rfl) rfl rfl ?_
 refine ap (ah rfl) rfl rfl ?_
 refine ae ?_
 refine aj ?_
 refine ao ?_
 refine ao ?_
 refine aa ?_
 refine ap (ak rfl) rfl rfl ?_
 refine ap (eB Try.underlying57 rfl rfl) rfl rfl ?_
 refine bv (t := 9) (.bool false) rfl (congrArg Value.bool rfl) ?_
 refine ae ?_
 refine aj ?_
 refine av rfl ?_
 refine aG ?_
 refine aj ?_
 refine ao ?_
 refine eM 11 rfl mixed ?_
 refine aI (i := 0) rfl ab (ak rfl) ar ar rfl (ai aq) (by kernel_rfl) rfl ?_
 refine aI (i := 1) rfl ab (aO rfl) ar ar rfl (ai aq) (by kernel_rfl) rfl ?_
 refine aI (i := 2) rfl ab (aB d3 rfl) ar ar rfl (ai aq) (by kernel_rfl) rfl ?_
 refine aI (i := 3) rfl ab (bd 0 ty_110 rfl rfl rfl) ar ar rfl (ai aq) (by kernel_rfl) rfl ?_
 refine aI (i := 4) rfl ab (aM 0 aF rfl rfl rfl rfl) ar ar rfl (ai aq) (by kernel_rfl) rfl ?_
 refine cg (i := 5) rfl rfl rfl (fun _ _ _ => a8 (by kernel_rfl)) (by kernel_rfl) rfl ?_
 refine ap (cR Try.underlying110 fj bE rfl rfl (fun w hw => hw.sh _ (List.mem_of_getElem? (i := 2) rfl))) rfl rfl ?_
 refine ae ?_
 refine bk ar ?_
 refine wu_as (t := 16) (.tuple #[.string (ba ((bN am a).getD [])), .bool (bN am a).isSome]) rfl look2_n ?_
 refine aI (i := 6) rfl ab (ak rfl) ar ar rfl (ai aq) (by kernel_rfl) rfl ?_
 refine aI (i := 7) rfl ab (aw rfl rfl) ar ar rfl (ai aq) (by kernel_rfl) rfl ?_
 refine aI (i := 8) rfl ab (aw rfl rfl) ar ar rfl (ai aq) (by kernel_rfl) rfl ?_
 refine wu_splitb (t := 18) rfl (fun h3_8 => ?_) (fun h3_8 => ?_)
 refine aI (i := 9) rfl ab (ah rfl) ar ar rfl (ai aq) (by kernel_rfl) rfl ?_
 refine aI (i := 10) rfl ab (ah rfl) ar ar rfl (ai aq) (by kernel_rfl) rfl ?_
 refine cM (by kernel_rfl) ?_
 refine aj ?_
 refine ao ?_
 refine ao ?_
 refine aa ?_
 refine ap (ak rfl) rfl rfl ?_
 refine ap (bG rfl) rfl rfl ?_
 refine ae ?_
 refine aj ?_
 refine av rfl ?_
 refine aG ?_
 refine aj ?_
 refine ao ?_
 refine aa ?_
 refine ap (ak rfl) rfl rfl ?_
 refine ap (aO rfl) rfl rfl ?_
 refine ap (aB ck rfl) rfl rfl ?_
 refine ap (bd 0 c4 rfl rfl rfl) rfl rfl ?_
 refine ap (ak rfl) rfl rfl ?_
 refine ap (fH Try.underlying109 (bO Try.underlying37) br rfl rfl (fun w hw => hw.sh _ (List.mem_of_getElem? (i := 1) rfl))) rfl rfl ?_
 refine bv (t := 26) (.agg (hdC ((bN hm ((bN am a).getD [])).getD eu)).toArray) rfl look1_hd ?_
 refine ap (y_fieldv (v := .string (ba ((bN hm ((bN am a).getD [])).getD eu).host)) rfl (fun w => by kernel_rfl)) rfl rfl ?_
 refine ap (ah rfl) rfl rfl ?_
 refine ap (ah rfl) rfl rfl ?_
 refine ae ?_
 refine aj ?_
 refine aC ?_
 refine aJ (ts := [4, 5]) rfl rfl rfl (fun w hw => ?_)
 focus first
   | (have hE : hostV hm am a = ([], false) := if_pos h3_8
      rw [hE]
      exact ⟨(), rfl, hw.base, (hw.weak (List.nil_sublist _) (fun s hs => hs)).toNews⟩)
   | (have hE : hostV hm am a = (((bN hm ((bN am a).getD [])).getD eu).host, true) := if_neg (by rw [h3_8]; decide)
      rw [hE]
      exact ⟨(), rfl, hw.base, (hw.weak (List.nil_sublist _) (fun s hs => hs)).toNews⟩)
   | (trace_state; fail)
 refine aI (i := 9) rfl ab (ah rfl) ar ar rfl (ai aq) (by kernel_rfl) rfl ?_
 refine aI (i := 10) rfl ab (ah rfl) ar ar rfl (ai aq) (by kernel_rfl) rfl ?_
 refine cM (by kernel_rfl) ?_
 refine aj ?_
 refine ao ?_
 refine ao ?_
 refine aa ?_
 refine ap (ak rfl) rfl rfl ?_
 refine ap (bG rfl) rfl rfl ?_
 refine ae ?_
 refine aj ?_
 refine ay rfl ?_
 refine ao ?_
 refine aa ?_
 refine ap (ah rfl) rfl rfl ?_
 refine ap (ah rfl) rfl rfl ?_
 refine ae ?_
 refine aj ?_
 refine aC ?_
 refine aA ?_
 refine aJ (ts := [4, 5]) rfl rfl rfl (fun w hw => ?_)
 focus first
   | (have hE : hostV hm am a = ([], false) := if_pos h3_8
      rw [hE]
      exact ⟨(), rfl, hw.base, (hw.weak (List.nil_sublist _) (fun s hs => hs)).toNews⟩)
   | (have hE : hostV hm am a = (((bN hm ((bN am a).getD [])).getD eu).host, true) := if_neg (by rw [h3_8]; decide)
      rw [hE]
      exact ⟨(), rfl, hw.base, (hw.weak (List.nil_sublist _) (fun s hs => hs)).toNews⟩)
   | (trace_state; fail)

theorem probe_rng {n : aL} {slots : Nat} {e : Int} (h : e ∈ cW n slots) : 0 ≤ e ∧ e < slots := by
  obtain ⟨k, hk, rfl⟩ := List.mem_iff_getElem.1 h
  rw [bY] at hk
  have h1 := dK n slots k hk
  rw [List.getD_eq_getElem?_getD, List.getElem?_eq_getElem (by rw [bY]; exact hk)] at h1
  have h2 := atH_rng (n := n) (slots := slots) (by omega) k
  have h3 : (cW n slots)[k]'(by rw [bY]; exact hk) = atH n slots k := h1
  rw [h3]; exact h2
theorem atR_lo (r : Rg) (i : Int) : 0 ≤ (atR r i).1.lo := by
  unfold atR
  split
  · exact ad0_lo
  · exact addA_lo _ _

set_option maxRecDepth 100000 in
set_option maxHeartbeats 4000000 in
theorem c_vGive (v : Vp) (hm : Hm) (am : Am) (n : aL) (hv : VOk v) (hn : n.length ≤ 1000000000) (hml : hm.length ≤ 1000000) : UC Try.prog 31 #[.pointer (some ⟨v.b, 0, none⟩), .string (ba n)] [Ch.row v.b (vpC v) 113, Ch.rd v.A 4 eb v.res] (vmC v hm am) (α := Unit) (fun o => .tuple #[.agg (dC (bw v hm am n).1.1).toArray, .int .i64 (bw v hm am n).1.2]) (fun o => vmC v (bw v hm am n).2.1 (bw v hm am n).2.2) := by
 refine uc_of_WM (args := [.pointer (some ⟨v.b, 0, none⟩), .string (ba n)]) 81 Try.func31 rfl rfl rfl (fun w0 => ?_)
 refine cK (fun w h => h.untwo) ?_
 refine ao ?_
 refine aa ?_
 refine bx rfl rfl rfl (fun b1 => ?_)
 refine bx rfl rfl rfl (fun b2 => ?_)
 refine bc aF rfl rfl (fun b3 => ?_)
 refine bc cV rfl rfl (fun b4 => ?_)
 refine ae ?_
 refine aj ?_
 refine ao ?_
 refine aS ?_
 refine ao ?_
 refine aa ?_
 refine ap (aK 3 dP rfl rfl rfl) rfl rfl ?_
 refine ap (eB Try.underlying57 rfl rfl) rfl rfl ?_
 refine bv (t := 14) (.bool false) rfl (congrArg Value.bool rfl) ?_
 refine ap (ah rfl) rfl rfl ?_
 refine ae ?_
 refine aj ?_
 refine av rfl ?_
 refine ao ?_
 refine aa ?_
 refine ap (aK 2 bE rfl rfl rfl) rfl rfl ?_
 refine aR rfl ent_62 (c_vhost _) rfl ?_
 refine bp (t := 18) rfl (fun h3_1 => ?_) (fun h3_1 => ?_)
 refine ap (bG rfl) rfl rfl ?_
 refine ap (ah rfl) rfl rfl ?_
 refine ae ?_
 refine aj ?_
 refine av rfl ?_
 refine aG ?_
 refine bA ?_
 refine aj ?_
 refine ao ?_
 refine aa ?_
 refine ap (aK 2 bE rfl rfl rfl) rfl rfl ?_
 refine aR rfl ek (cz _ (by omega)) rfl ?_
 refine bc bE rfl rfl (fun b5 => ?_)
 refine aH bE rfl rfl rfl .z rfl rfl rfl rfl ?_
 refine ae ?_
 refine aj ?_
 refine ao ?_
 refine ao ?_
 refine w_drawV 12 mixed ?_
 refine aV (i := 0) rfl ab (aK 4 dP rfl rfl rfl) ar ar rfl (ai (ai aq)) (by kernel_rfl) rfl ?_
 refine aV (i := 1) rfl ab (aO rfl) ar ar rfl (ai (ai aq)) (by kernel_rfl) rfl ?_
 refine aV (i := 2) rfl ab (aB ck rfl) ar ar rfl (ai (ai aq)) (by kernel_rfl) rfl ?_
 refine aV (i := 3) rfl ab (bd 0 c4 rfl rfl rfl) ar ar rfl (ai (ai aq)) (by kernel_rfl) rfl ?_
 refine aV (i := 4) rfl ab (aK 0 bE rfl rfl rfl) ar ar rfl (ai (ai aq)) (by kernel_rfl) rfl ?_
 refine v_many (js := [5, 9]) (by kernel_rfl) rfl ?_
 refine wrv_cons (i := 5) rfl rfl ?_ ?_
 refine ap (cR Try.underlying109 (bO Try.underlying37) br rfl rfl (fun w hw => hw.own _ (List.mem_of_getElem? (i := 5) rfl))) rfl rfl ?_
 refine ae ?_
 refine bX ar ?_
 refine wv_as (t := 29) (.tuple #[.agg (hdC ((bN hm (aT n)).getD eu)).toArray, .bool (bN hm (aT n)).isSome]) rfl d8 ?_
 refine aV (i := 6) rfl ab (ak rfl) ar ar rfl (ai (ai aq)) (by kernel_rfl) rfl ?_
 refine aV (i := 7) rfl ab (aw rfl rfl) ar ar rfl (ai (ai aq)) (by kernel_rfl) rfl ?_
 refine aV (i := 8) rfl ab (aw rfl rfl) ar ar rfl (ai (ai aq)) (by kernel_rfl) rfl ?_
 refine wv_splitb (t := 31) rfl (fun h6_8 => ?_) (fun h6_8 => ?_)
 refine cY (i := 9) rfl (by kernel_rfl) rfl ?_
 refine bc br rfl rfl (fun b6 => ?_)
 refine ae ?_
 refine bX (bU 1) ?_
 refine cY (i := 10) rfl (by kernel_rfl) rfl ?_
 refine aH br rfl rfl rfl .z rfl rfl rfl rfl ?_
 refine ae ?_
 refine bX (bU 1) ?_
 refine aV (i := 11) rfl ab (ah rfl) (bU 1) ar rfl (ai (ai aq)) (by kernel_rfl) rfl ?_
 refine eH (by kernel_rfl) ?_
 refine aj ?_
 refine ao ?_
 refine aa ?_
 refine ap (ak rfl) rfl rfl ?_
 refine ae ?_
 refine aj ?_
 refine ay rfl ?_
 refine ao ?_
 refine aa ?_
 refine ap (aB dA rfl) rfl rfl ?_
 refine ap (aM 0 aF rfl rfl rfl rfl) rfl rfl ?_
 refine aH aF rfl rfl rfl (.s (.s (.s (.z)))) rfl rfl rfl rfl ?_
 refine aH cV rfl rfl rfl (.s (.s (.z))) rfl rfl rfl rfl ?_
 refine ae ?_
 refine aj ?_
 refine aC ?_
 refine aA ?_
 refine dV ?_
 refine da (rs := [.cell 4 62, .cell 5 31]) rfl (bh 3 aF rfl rfl rfl rfl (dq 2 cV rfl rfl rfl bz)) (fun w hw => ?_)
 obtain ⟨h1, h2, h3⟩ := (hw.weak (.cons _ (.cons _ (.cons _ (.cons _ (.cons _ (.cons _ (.cons_cons _ (.cons_cons _ .slnil)))))))) (fun s hs => hs)).f1.f1.two.uc
 focus first
   | (have hE := cA (v := v) (hm := hm) (am := am) h3_1
      rw [hE]
      exact ⟨(), rfl, h1, h2, h3⟩)
   | (have hE := cG (v := v) (am := am) h3_1 h6_8
      rw [hE]
      exact ⟨(), rfl, h1, h2, h3⟩)
   | (have hE := cm (am := am) h3_1 h6_8 h9_2
      rw [hE]
      exact ⟨(), rfl, h1, h2, h3⟩)
   | (have hE := bJ (am := am) h3_1 h6_8 h9_2 (show bu v am n = none from hpf)
      rw [hE]
      exact ⟨(), rfl, h1, h2, h3⟩)
   | (have hq : bu v am n = g := by
        rw [bu, hxs, List.find?_append, ← hq9]
        cases g with
        | none => cases hqs
        | some y => rfl
      have hE := bJ (am := am) h3_1 h6_8 h9_2 hq
      rw [hqs, if_pos rfl] at hE
      rw [hE]
      exact ⟨(), rfl, h1, h2, h3⟩)
   | (trace_state; fail)
 refine cY (i := 9) rfl (by kernel_rfl) rfl ?_
 refine bc br rfl rfl (fun b7 => ?_)
 refine ae ?_
 refine bX (bU 1) ?_
 refine cY (i := 10) rfl (by kernel_rfl) rfl ?_
 refine aH br rfl rfl rfl .z rfl rfl rfl rfl ?_
 refine ae ?_
 refine bX (bU 1) ?_
 refine aV (i := 11) rfl ab (ah rfl) (bU 1) ar rfl (ai (ai aq)) (by kernel_rfl) rfl ?_
 refine eH (by kernel_rfl) ?_
 refine aj ?_
 refine ao ?_
 refine aa ?_
 refine ap (ak rfl) rfl rfl ?_
 refine ae ?_
 refine aj ?_
 refine av rfl ?_
 refine aG ?_
 refine aj ?_
 refine ao ?_
 refine ao ?_
 refine aa ?_
 refine ap (aK 5 dP rfl rfl rfl) rfl rfl ?_
 refine bi rfl ent_35 rfl (c_vFree v hm hv hml) (fun w hw => (aN (cL 0 rfl hw) (aN (d7 6 rfl hw) aY))) ?_
 refine ap (cH rfl rfl) rfl rfl ?_
 refine aD (t := 37) rfl (fun h9_2 => ?_) (fun h9_2 => ?_)
 refine ae ?_
 refine aj ?_
 refine ay rfl ?_
 refine ao ?_
 refine aa ?_
 refine ap (bl rfl (d5)) rfl rfl ?_
 refine aH aF rfl rfl rfl (.s (.s (.s (.z)))) rfl rfl rfl rfl ?_
 refine aH cV rfl rfl rfl (.s (.s (.z))) rfl rfl rfl rfl ?_
 refine ae ?_
 refine aj ?_
 refine aC ?_
 refine aA ?_
 refine dV ?_
 refine da (rs := [.cell 4 62, .cell 5 31]) rfl (bh 3 aF rfl rfl rfl rfl (dq 2 cV rfl rfl rfl bz)) (fun w hw => ?_)
 obtain ⟨h1, h2, h3⟩ := (hw.weak (.cons _ (.cons _ (.cons _ (.cons _ (.cons _ (.cons _ (.cons_cons _ (.cons_cons _ .slnil)))))))) (fun s hs => hs)).f1.f1.two.uc
 focus first
   | (have hE := cA (v := v) (hm := hm) (am := am) h3_1
      rw [hE]
      exact ⟨(), rfl, h1, h2, h3⟩)
   | (have hE := cG (v := v) (am := am) h3_1 h6_8
      rw [hE]
      exact ⟨(), rfl, h1, h2, h3⟩)
   | (have hE := cm (am := am) h3_1 h6_8 h9_2
      rw [hE]
      exact ⟨(), rfl, h1, h2, h3⟩)
   | (have hE := bJ (am := am) h3_1 h6_8 h9_2 (show bu v am n = none from hpf)
      rw [hE]
      exact ⟨(), rfl, h1, h2, h3⟩)
   | (have hq : bu v am n = g := by
        rw [bu, hxs, List.find?_append, ← hq9]
        cases g with
        | none => cases hqs
        | some y => rfl
      have hE := bJ (am := am) h3_1 h6_8 h9_2 hq
      rw [hqs, if_pos rfl] at hE
      rw [hE]
      exact ⟨(), rfl, h1, h2, h3⟩)
   | (trace_state; fail)
 refine ae ?_
 refine aj ?_
 refine av rfl ?_
 refine aG ?_
 refine aj ?_
 refine ao ?_
 refine ao ?_
 have hsl := fq v.rg
 refine w_drawV 8 mixed ?_
 refine aV (i := 0) rfl ab (aK 4 bE rfl rfl rfl) ar ar rfl (ai (ai aq)) (by kernel_rfl) rfl ?_
 refine aV (i := 1) rfl ab (aK 5 dP rfl rfl rfl) ar ar rfl (ai (ai aq)) (by kernel_rfl) rfl ?_
 refine aV (i := 2) rfl ab (aO rfl) ar ar rfl (ai (ai aq)) (by kernel_rfl) rfl ?_
 refine aV (i := 3) rfl ab (aB d6 rfl) ar ar rfl (ai (ai aq)) (by kernel_rfl) rfl ?_
 refine aV (i := 4) rfl ab (aB eQ rfl) ar ar rfl (ai (ai aq)) (by kernel_rfl) rfl ?_
 refine aV (i := 5) rfl ab (cC 0 cc rfl rfl rfl rfl) ar ar rfl (ai (ai aq)) (by kernel_rfl) rfl ?_
 refine cY (i := 6) rfl (by kernel_rfl) rfl ?_
 refine aR rfl ent_68 (c_rSize v.rg hv.rg.lo.1) rfl ?_
 refine ae ?_
 refine bX ar ?_
 refine cY (i := 7) rfl (by kernel_rfl) rfl ?_
 refine o_callr2 rfl ent_67 rfl (fx n (cv v.rg)) (fun w hw => aY) (fun ⟨p7, q7⟩ => ?_)
 refine ae ?_
 refine bX (bU 2) ?_
 refine wv_heap (fun w h => h.freeze.freeze) ?_
 refine eH (by kernel_rfl) ?_
 refine aj ?_
 refine aS ?_
 refine cK (fun w h => h.weak (.cons _ (.cons_cons _ (.cons_cons _ (.cons_cons _ (.cons_cons _ (.cons_cons _ (.cons_cons _ (.cons_cons _ .slnil)))))))) (fun s hs => hs)) ?_
 refine w_range (σ := Option Int) (fun pre g => g = none ∧ pre.find? (fun i => em v.res am (atR v.rg i).1) = none) (fun c pre g => c = .ret ∧ g = pre.find? (fun i => em v.res am (atR v.rg i).1) ∧ g.isSome = true) (fun g => [Ch.row b5 [.string (ba (aT n))] 37, Ch.row b4 [.int .i64 0] 31, Ch.row b3 (dC (adO v g)) 62, Ch.row b2 [.string (ba n)] 37, Ch.row b1 [.pointer (some ⟨v.b, 0, none⟩)] 57, Ch.mp v.rh bB bM (hmO v hm n g), Ch.mp v.ra dD bB (amO v am n g)]) (none) rfl rfl ent_107 (eW n (cv v.rg) p7 q7 hn (by omega) (by omega)) (List.forall_mem_cons.2 ⟨.head _, List.forall_mem_cons.2 ⟨.tail _ (.head _), nofun⟩⟩) rfl (fun _ => rfl) (⟨rfl, rfl⟩) rfl (fun pre e post g hxs hI lr D r hr okb wb => ?_) (fun g D0 hI => ?_) (fun c pre post g D0 hxs hI => ?_)
 obtain ⟨rfl, hpf⟩ := hI
 have her := probe_rng (n := n) (slots := cv v.rg) (e := e) (by rw [hxs]; simp)
 refine aa ?_
 refine ap (ah rfl) rfl rfl ?_
 refine ae ?_
 refine eK rfl hr .z ?_
 refine aS ?_
 refine ao ?_
 refine aa ?_
 refine ap (aK 6 dP rfl rfl rfl) rfl rfl ?_
 refine ap (aO rfl) rfl rfl ?_
 refine ap (aB d6 rfl) rfl rfl ?_
 refine ap (aB eQ rfl) rfl rfl ?_
 refine ap (cC 2 cc rfl rfl rfl rfl) rfl rfl ?_
 refine ap (ak rfl) rfl rfl ?_
 refine bi rfl ent_69 rfl (c_rAt v.rg e hv.rg (by omega)) (fun w hw => aY) ?_
 refine ap (ak rfl) rfl rfl ?_
 refine ap (aw rfl rfl) rfl rfl ?_
 refine ap (aw rfl rfl) rfl rfl ?_
 refine bc aF rfl rfl (fun b9 => ?_)
 refine aH aF rfl rfl rfl .z rfl rfl rfl rfl ?_
 refine ap (ah rfl) rfl rfl ?_
 refine ae ?_
 refine aj ?_
 refine ao ?_
 refine aa ?_
 refine ap (aK 7 dP rfl rfl rfl) rfl rfl ?_
 refine ap (aM 0 aF rfl rfl rfl rfl) rfl rfl ?_
 refine bi rfl ent_70 rfl (c_vfree v am (atR v.rg e).1 hv (atR_lo _ _)) (fun w hw => (aN (cL 2 rfl hw) (aN (cL 3 rfl hw) (aN (d7 9 rfl hw) aY)))) ?_
 refine bp (t := 60) rfl (fun h14_2 => ?_) (fun h14_2 => ?_)
 refine ae ?_
 refine aj ?_
 refine ay rfl ?_
 refine ao ?_
 refine w_drawVA 20 mixed (fun w h => ((h.anymp (.s (.s (.s (.s (.s (.s (.s (.s (.z)))))))))).anymp (.s (.s (.s (.s (.s (.s (.s (.s (.s (.z)))))))))))) ?_
 refine aV (i := 0) rfl ab (aK 7 dP rfl rfl rfl) (fun w h => ((h.anymp (.s (.s (.s (.s (.s (.s (.s (.s (.z)))))))))).anymp (.s (.s (.s (.s (.s (.s (.s (.s (.s (.z)))))))))))) ar rfl (ai (aZ bK)) (by kernel_rfl) rfl ?_
 refine aV (i := 1) rfl ab (aO rfl) (fun w h => ((h.anymp (.s (.s (.s (.s (.s (.s (.s (.s (.z)))))))))).anymp (.s (.s (.s (.s (.s (.s (.s (.s (.s (.z)))))))))))) ar rfl (ai (aZ bK)) (by kernel_rfl) rfl ?_
 refine aV (i := 2) rfl ab (aB ck rfl) (fun w h => ((h.anymp (.s (.s (.s (.s (.s (.s (.s (.s (.z)))))))))).anymp (.s (.s (.s (.s (.s (.s (.s (.s (.s (.z)))))))))))) ar rfl (ai (aZ bK)) (by kernel_rfl) rfl ?_
 refine aV (i := 3) rfl ab (bd 2 c4 rfl rfl rfl) (fun w h => ((h.anymp (.s (.s (.s (.s (.s (.s (.s (.s (.z)))))))))).anymp (.s (.s (.s (.s (.s (.s (.s (.s (.s (.z)))))))))))) ar rfl (ai (aZ bK)) (by kernel_rfl) rfl ?_
 refine aV (i := 4) rfl ab (aK 3 bE rfl rfl rfl) (fun w h => ((h.anymp (.s (.s (.s (.s (.s (.s (.s (.s (.z)))))))))).anymp (.s (.s (.s (.s (.s (.s (.s (.s (.s (.z)))))))))))) ar rfl (ai (aZ bK)) (by kernel_rfl) rfl ?_
 refine aV (i := 5) rfl ab (aK 7 dP rfl rfl rfl) (fun w h => ((h.anymp (.s (.s (.s (.s (.s (.s (.s (.s (.z)))))))))).anymp (.s (.s (.s (.s (.s (.s (.s (.s (.s (.z)))))))))))) ar rfl (ai (aZ bK)) (by kernel_rfl) rfl ?_
 refine aV (i := 6) rfl ab (aO rfl) (fun w h => ((h.anymp (.s (.s (.s (.s (.s (.s (.s (.s (.z)))))))))).anymp (.s (.s (.s (.s (.s (.s (.s (.s (.s (.z)))))))))))) ar rfl (ai (aZ bK)) (by kernel_rfl) rfl ?_
 refine aV (i := 7) rfl ab (aB d3 rfl) (fun w h => ((h.anymp (.s (.s (.s (.s (.s (.s (.s (.s (.z)))))))))).anymp (.s (.s (.s (.s (.s (.s (.s (.s (.s (.z)))))))))))) ar rfl (ai (aZ bK)) (by kernel_rfl) rfl ?_
 refine aV (i := 8) rfl ab (bd 2 ty_110 rfl rfl rfl) (fun w h => ((h.anymp (.s (.s (.s (.s (.s (.s (.s (.s (.z)))))))))).anymp (.s (.s (.s (.s (.s (.s (.s (.s (.s (.z)))))))))))) ar rfl (ai (aZ bK)) (by kernel_rfl) rfl ?_
 refine aV (i := 9) rfl ab (aM 0 aF rfl rfl rfl rfl) (fun w h => ((h.anymp (.s (.s (.s (.s (.s (.s (.s (.s (.z)))))))))).anymp (.s (.s (.s (.s (.s (.s (.s (.s (.s (.z)))))))))))) ar rfl (ai (aZ bK)) (by kernel_rfl) rfl ?_
 refine aV (i := 10) rfl ab (aK 6 bE rfl rfl rfl) (fun w h => ((h.anymp (.s (.s (.s (.s (.s (.s (.s (.s (.z)))))))))).anymp (.s (.s (.s (.s (.s (.s (.s (.s (.s (.z)))))))))))) ar rfl (ai (aZ bK)) (by kernel_rfl) rfl ?_
 refine aV (i := 11) rfl ab (aM 0 aF rfl rfl rfl rfl) (fun w h => ((h.anymp (.s (.s (.s (.s (.s (.s (.s (.s (.z)))))))))).anymp (.s (.s (.s (.s (.s (.s (.s (.s (.s (.z)))))))))))) ar rfl (ai (aZ bK)) (by kernel_rfl) rfl ?_
 refine aV (i := 12) rfl ab (bl rfl (bu_121_0_1 _ _ _ _)) (fun w h => ((h.anymp (.s (.s (.s (.s (.s (.s (.s (.s (.z)))))))))).anymp (.s (.s (.s (.s (.s (.s (.s (.s (.s (.z)))))))))))) ar rfl (ai (aZ bK)) (by kernel_rfl) rfl ?_
 refine aV (i := 13) rfl ab (aK 3 bE rfl rfl rfl) (fun w h => ((h.anymp (.s (.s (.s (.s (.s (.s (.s (.s (.z)))))))))).anymp (.s (.s (.s (.s (.s (.s (.s (.s (.s (.z)))))))))))) ar rfl (ai (aZ bK)) (by kernel_rfl) rfl ?_
 refine cY (i := 14) rfl (by kernel_rfl) rfl ?_
 refine fu (encK := bB) (encV := bM) Try.underlying109 (bO Try.underlying37) br rfl rfl (d9 h6_8) (fun st => (.s (.s (.s (.s (.s (.s (.s (.s (.z)))))))))) rfl (fun st9 => ?_)
 refine ae ?_
 refine bX (fun w h => ((h.anymq (v0 := eu) rfl (.s (.s (.s (.s (.s (.s (.s (.s (.z)))))))))).anymp (.s (.s (.s (.s (.s (.s (.s (.s (.s (.z)))))))))))) ?_
 refine aV (i := 15) rfl ab (aw rfl rfl) (fun w h => ((h.anymq (v0 := eu) rfl (.s (.s (.s (.s (.s (.s (.s (.s (.z)))))))))).anymp (.s (.s (.s (.s (.s (.s (.s (.s (.s (.z)))))))))))) ar rfl (ai (aZ bK)) (by kernel_rfl) rfl ?_
 refine cY (i := 16) rfl (by kernel_rfl) rfl ?_
 refine o_entSt (encK := bB) (encV := bM) (v := (⟨n, (atR v.rg e).1⟩ : Hd)) rfl rfl rfl (.s (.s (.s (.s (.s (.s (.s (.s (.z))))))))) ?_
 refine ae ?_
 refine bX (fun w h => ((h.anymp (.s (.s (.s (.s (.s (.s (.s (.s (.z)))))))))).anymp (.s (.s (.s (.s (.s (.s (.s (.s (.s (.z)))))))))))) ?_
 refine cY (i := 17) rfl (by kernel_rfl) rfl ?_
 refine fu (encK := dD) (encV := bB) Try.underlying110 fj bE rfl rfl (ff h14_2) (fun st => (.s (.s (.s (.s (.s (.s (.s (.s (.s (.z))))))))))) rfl (fun st10 => ?_)
 refine ae ?_
 refine bX (fun w h => ((h.anymp (.s (.s (.s (.s (.s (.s (.s (.s (.z)))))))))).anymq (v0 := ([] : aL)) rfl (.s (.s (.s (.s (.s (.s (.s (.s (.s (.z)))))))))))) ?_
 refine aV (i := 18) rfl ab (aw rfl rfl) (fun w h => ((h.anymp (.s (.s (.s (.s (.s (.s (.s (.s (.z)))))))))).anymq (v0 := ([] : aL)) rfl (.s (.s (.s (.s (.s (.s (.s (.s (.s (.z)))))))))))) ar rfl (ai (aZ bK)) (by kernel_rfl) rfl ?_
 refine cY (i := 19) rfl (by kernel_rfl) rfl ?_
 refine o_entSt (encK := dD) (encV := bB) (v := (aT n)) rfl rfl rfl (.s (.s (.s (.s (.s (.s (.s (.s (.s (.z)))))))))) ?_
 refine ae ?_
 refine bX (fun w h => ((h.anymp (.s (.s (.s (.s (.s (.s (.s (.s (.z)))))))))).anymp (.s (.s (.s (.s (.s (.s (.s (.s (.s (.z)))))))))))) ?_
 refine eH (by kernel_rfl) ?_
 refine aj ?_
 refine ao ?_
 refine aa ?_
 refine ap (aM 0 aF rfl rfl rfl rfl) rfl rfl ?_
 refine aH aF rfl rfl rfl (.s (.s (.s (.s (.s (.z)))))) rfl rfl rfl rfl ?_
 refine aH cV rfl rfl rfl (.s (.s (.s (.s (.z))))) rfl rfl rfl rfl ?_
 refine ae ?_
 refine aj ?_
 refine aC ?_
 refine aU ?_
 refine e_rret ((some e)) ?_ (bU 1)
 exact ⟨rfl, by rw [List.find?_append, hpf, List.find?_cons_of_pos (p := (fun i => em v.res am (atR v.rg i).1)) h14_2]; rfl, rfl⟩
 refine ae ?_
 refine aj ?_
 refine av rfl ?_
 refine aG ?_
 refine bA ?_
 refine e8 (none) ?_ (bU 1)
 exact ⟨rfl, by rw [List.find?_append, hpf, List.find?_cons_of_neg (by rw [h14_2]; decide)]; rfl⟩
 obtain ⟨rfl, hpf⟩ := hI
 refine bA ?_
 refine aj ?_
 refine ao ?_
 refine aa ?_
 refine ap (bl rfl (d5)) rfl rfl ?_
 refine aH aF rfl rfl rfl (.s (.s (.s (.z)))) rfl rfl rfl rfl ?_
 refine aH cV rfl rfl rfl (.s (.s (.z))) rfl rfl rfl rfl ?_
 refine ae ?_
 refine aj ?_
 refine aC ?_
 refine dV ?_
 refine dF .z ?_
 refine da (rs := [.cell 4 62, .cell 5 31]) rfl (bh 3 aF rfl rfl rfl rfl (dq 2 cV rfl rfl rfl bz)) (fun w hw => ?_)
 obtain ⟨h1, h2, h3⟩ := (hw.weak (.cons _ (.cons _ (.cons _ (.cons _ (.cons _ (.cons _ (.cons_cons _ (.cons_cons _ .slnil)))))))) (fun s hs => hs)).f1.f1.two.uc
 focus first
   | (have hE := cA (v := v) (hm := hm) (am := am) h3_1
      rw [hE]
      exact ⟨(), rfl, h1, h2, h3⟩)
   | (have hE := cG (v := v) (am := am) h3_1 h6_8
      rw [hE]
      exact ⟨(), rfl, h1, h2, h3⟩)
   | (have hE := cm (am := am) h3_1 h6_8 h9_2
      rw [hE]
      exact ⟨(), rfl, h1, h2, h3⟩)
   | (have hE := bJ (am := am) h3_1 h6_8 h9_2 (show bu v am n = none from hpf)
      rw [hE]
      exact ⟨(), rfl, h1, h2, h3⟩)
   | (have hq : bu v am n = g := by
        rw [bu, hxs, List.find?_append, ← hq9]
        cases g with
        | none => cases hqs
        | some y => rfl
      have hE := bJ (am := am) h3_1 h6_8 h9_2 hq
      rw [hqs, if_pos rfl] at hE
      rw [hE]
      exact ⟨(), rfl, h1, h2, h3⟩)
   | (trace_state; fail)
 obtain ⟨rfl, hq9, hqs⟩ := hI
 refine aC ?_
 refine aU ?_
 refine aA ?_
 refine dV ?_
 refine dF .z ?_
 refine da (rs := [.cell 4 62, .cell 5 31]) rfl (bh 3 aF rfl rfl rfl rfl (dq 2 cV rfl rfl rfl bz)) (fun w hw => ?_)
 obtain ⟨h1, h2, h3⟩ := (hw.weak (.cons _ (.cons _ (.cons _ (.cons _ (.cons _ (.cons _ (.cons_cons _ (.cons_cons _ .slnil)))))))) (fun s hs => hs)).f1.f1.two.uc
 focus first
   | (have hE := cA (v := v) (hm := hm) (am := am) h3_1
      rw [hE]
      exact ⟨(), rfl, h1, h2, h3⟩)
   | (have hE := cG (v := v) (am := am) h3_1 h6_8
      rw [hE]
      exact ⟨(), rfl, h1, h2, h3⟩)
   | (have hE := cm (am := am) h3_1 h6_8 h9_2
      rw [hE]
      exact ⟨(), rfl, h1, h2, h3⟩)
   | (have hE := bJ (am := am) h3_1 h6_8 h9_2 (show bu v am n = none from hpf)
      rw [hE]
      exact ⟨(), rfl, h1, h2, h3⟩)
   | (have hq : bu v am n = g := by
        rw [bu, hxs, List.find?_append, ← hq9]
        cases g with
        | none => cases hqs
        | some y => rfl
      have hE := bJ (am := am) h3_1 h6_8 h9_2 hq
      rw [hqs, if_pos rfl] at hE
      rw [hE]
      exact ⟨(), rfl, h1, h2, h3⟩)
   | (trace_state; fail)
 refine wrv_cons (i := 9) rfl rfl ?_ ?_
 refine bc br rfl rfl (fun b12 => ?_)
 refine ae ?_
 refine bX (bU 1) ?_
 refine cY (i := 5) rfl (by kernel_rfl) rfl ?_
 refine ap (cR Try.underlying109 (bO Try.underlying37) br rfl rfl (fun w hw => hw.own _ (List.mem_of_getElem? (i := 6) rfl))) rfl rfl ?_
 refine ae ?_
 refine bX (bU 1) ?_
 refine wv_as (t := 29) (.tuple #[.agg (hdC ((bN hm (aT n)).getD eu)).toArray, .bool (bN hm (aT n)).isSome]) rfl d8 ?_
 refine aV (i := 6) rfl ab (ak rfl) (bU 1) ar rfl (ai (ai aq)) (by kernel_rfl) rfl ?_
 refine aV (i := 7) rfl ab (aw rfl rfl) (bU 1) ar rfl (ai (ai aq)) (by kernel_rfl) rfl ?_
 refine aV (i := 8) rfl ab (aw rfl rfl) (bU 1) ar rfl (ai (ai aq)) (by kernel_rfl) rfl ?_
 refine wv_splitb (t := 31) rfl (fun h6_8 => ?_) (fun h6_8 => ?_)
 refine cY (i := 10) rfl (by kernel_rfl) rfl ?_
 refine aH br rfl rfl rfl .z rfl rfl rfl rfl ?_
 refine ae ?_
 refine bX (bU 1) ?_
 refine aV (i := 11) rfl ab (ah rfl) (bU 1) ar rfl (ai (ai aq)) (by kernel_rfl) rfl ?_
 refine eH (by kernel_rfl) ?_
 refine aj ?_
 refine ao ?_
 refine aa ?_
 refine ap (ak rfl) rfl rfl ?_
 refine ae ?_
 refine aj ?_
 refine ay rfl ?_
 refine ao ?_
 refine aa ?_
 refine ap (aB dA rfl) rfl rfl ?_
 refine ap (aM 0 aF rfl rfl rfl rfl) rfl rfl ?_
 refine aH aF rfl rfl rfl (.s (.s (.s (.z)))) rfl rfl rfl rfl ?_
 refine aH cV rfl rfl rfl (.s (.s (.z))) rfl rfl rfl rfl ?_
 refine ae ?_
 refine aj ?_
 refine aC ?_
 refine aA ?_
 refine dV ?_
 refine da (rs := [.cell 4 62, .cell 5 31]) rfl (bh 3 aF rfl rfl rfl rfl (dq 2 cV rfl rfl rfl bz)) (fun w hw => ?_)
 obtain ⟨h1, h2, h3⟩ := (hw.weak (.cons _ (.cons _ (.cons _ (.cons _ (.cons _ (.cons _ (.cons_cons _ (.cons_cons _ .slnil)))))))) (fun s hs => hs)).f1.f1.two.uc
 focus first
   | (have hE := cA (v := v) (hm := hm) (am := am) h3_1
      rw [hE]
      exact ⟨(), rfl, h1, h2, h3⟩)
   | (have hE := cG (v := v) (am := am) h3_1 h6_8
      rw [hE]
      exact ⟨(), rfl, h1, h2, h3⟩)
   | (have hE := cm (am := am) h3_1 h6_8 h9_2
      rw [hE]
      exact ⟨(), rfl, h1, h2, h3⟩)
   | (have hE := bJ (am := am) h3_1 h6_8 h9_2 (show bu v am n = none from hpf)
      rw [hE]
      exact ⟨(), rfl, h1, h2, h3⟩)
   | (have hq : bu v am n = g := by
        rw [bu, hxs, List.find?_append, ← hq9]
        cases g with
        | none => cases hqs
        | some y => rfl
      have hE := bJ (am := am) h3_1 h6_8 h9_2 hq
      rw [hqs, if_pos rfl] at hE
      rw [hE]
      exact ⟨(), rfl, h1, h2, h3⟩)
   | (trace_state; fail)
 refine cY (i := 10) rfl (by kernel_rfl) rfl ?_
 refine aH br rfl rfl rfl .z rfl rfl rfl rfl ?_
 refine ae ?_
 refine bX (bU 1) ?_
 refine aV (i := 11) rfl ab (ah rfl) (bU 1) ar rfl (ai (ai aq)) (by kernel_rfl) rfl ?_
 refine eH (by kernel_rfl) ?_
 refine aj ?_
 refine ao ?_
 refine aa ?_
 refine ap (ak rfl) rfl rfl ?_
 refine ae ?_
 refine aj ?_
 refine av rfl ?_
 refine aG ?_
 refine aj ?_
 refine ao ?_
 refine ao ?_
 refine aa ?_
 refine ap (aK 5 dP rfl rfl rfl) rfl rfl ?_
 refine bi rfl ent_35 rfl (c_vFree v hm hv hml) (fun w hw => (aN (cL 0 rfl hw) (aN (d7 6 rfl hw) aY))) ?_
 refine ap (cH rfl rfl) rfl rfl ?_
 refine aD (t := 37) rfl (fun h9_2 => ?_) (fun h9_2 => ?_)
 refine ae ?_
 refine aj ?_
 refine ay rfl ?_
 refine ao ?_
 refine aa ?_
 refine ap (bl rfl (d5)) rfl rfl ?_
 refine aH aF rfl rfl rfl (.s (.s (.s (.z)))) rfl rfl rfl rfl ?_
 refine aH cV rfl rfl rfl (.s (.s (.z))) rfl rfl rfl rfl ?_
 refine ae ?_
 refine aj ?_
 refine aC ?_
 refine aA ?_
 refine dV ?_
 refine da (rs := [.cell 4 62, .cell 5 31]) rfl (bh 3 aF rfl rfl rfl rfl (dq 2 cV rfl rfl rfl bz)) (fun w hw => ?_)
 obtain ⟨h1, h2, h3⟩ := (hw.weak (.cons _ (.cons _ (.cons _ (.cons _ (.cons _ (.cons _ (.cons_cons _ (.cons_cons _ .slnil)))))))) (fun s hs => hs)).f1.f1.two.uc
 focus first
   | (have hE := cA (v := v) (hm := hm) (am := am) h3_1
      rw [hE]
      exact ⟨(), rfl, h1, h2, h3⟩)
   | (have hE := cG (v := v) (am := am) h3_1 h6_8
      rw [hE]
      exact ⟨(), rfl, h1, h2, h3⟩)
   | (have hE := cm (am := am) h3_1 h6_8 h9_2
      rw [hE]
      exact ⟨(), rfl, h1, h2, h3⟩)
   | (have hE := bJ (am := am) h3_1 h6_8 h9_2 (show bu v am n = none from hpf)
      rw [hE]
      exact ⟨(), rfl, h1, h2, h3⟩)
   | (have hq : bu v am n = g := by
        rw [bu, hxs, List.find?_append, ← hq9]
        cases g with
        | none => cases hqs
        | some y => rfl
      have hE := bJ (am := am) h3_1 h6_8 h9_2 hq
      rw [hqs, if_pos rfl] at hE
      rw [hE]
      exact ⟨(), rfl, h1, h2, h3⟩)
   | (trace_state; fail)
 refine ae ?_
 refine aj ?_
 refine av rfl ?_
 refine aG ?_
 refine aj ?_
 refine ao ?_
 refine ao ?_
 have hsl := fq v.rg
 refine w_drawV 8 mixed ?_
 refine aV (i := 0) rfl ab (aK 4 bE rfl rfl rfl) ar ar rfl (ai (ai aq)) (by kernel_rfl) rfl ?_
 refine aV (i := 1) rfl ab (aK 5 dP rfl rfl rfl) ar ar rfl (ai (ai aq)) (by kernel_rfl) rfl ?_
 refine aV (i := 2) rfl ab (aO rfl) ar ar rfl (ai (ai aq)) (by kernel_rfl) rfl ?_
 refine aV (i := 3) rfl ab (aB d6 rfl) ar ar rfl (ai (ai aq)) (by kernel_rfl) rfl ?_
 refine aV (i := 4) rfl ab (aB eQ rfl) ar ar rfl (ai (ai aq)) (by kernel_rfl) rfl ?_
 refine aV (i := 5) rfl ab (cC 0 cc rfl rfl rfl rfl) ar ar rfl (ai (ai aq)) (by kernel_rfl) rfl ?_
 refine cY (i := 6) rfl (by kernel_rfl) rfl ?_
 refine aR rfl ent_68 (c_rSize v.rg hv.rg.lo.1) rfl ?_
 refine ae ?_
 refine bX ar ?_
 refine cY (i := 7) rfl (by kernel_rfl) rfl ?_
 refine o_callr2 rfl ent_67 rfl (fx n (cv v.rg)) (fun w hw => aY) (fun ⟨p12, q12⟩ => ?_)
 refine ae ?_
 refine bX (bU 2) ?_
 refine wv_heap (fun w h => h.freeze.freeze) ?_
 refine eH (by kernel_rfl) ?_
 refine aj ?_
 refine aS ?_
 refine cK (fun w h => h.weak (.cons _ (.cons_cons _ (.cons_cons _ (.cons_cons _ (.cons_cons _ (.cons_cons _ (.cons_cons _ (.cons_cons _ .slnil)))))))) (fun s hs => hs)) ?_
 refine w_range (σ := Option Int) (fun pre g => g = none ∧ pre.find? (fun i => em v.res am (atR v.rg i).1) = none) (fun c pre g => c = .ret ∧ g = pre.find? (fun i => em v.res am (atR v.rg i).1) ∧ g.isSome = true) (fun g => [Ch.row b5 [.string (ba (aT n))] 37, Ch.row b4 [.int .i64 0] 31, Ch.row b3 (dC (adO v g)) 62, Ch.row b2 [.string (ba n)] 37, Ch.row b1 [.pointer (some ⟨v.b, 0, none⟩)] 57, Ch.mp v.rh bB bM (hmO v hm n g), Ch.mp v.ra dD bB (amO v am n g)]) (none) rfl rfl ent_107 (eW n (cv v.rg) p12 q12 hn (by omega) (by omega)) (List.forall_mem_cons.2 ⟨.head _, List.forall_mem_cons.2 ⟨.tail _ (.head _), nofun⟩⟩) rfl (fun _ => rfl) (⟨rfl, rfl⟩) rfl (fun pre e post g hxs hI lr D r hr okb wb => ?_) (fun g D0 hI => ?_) (fun c pre post g D0 hxs hI => ?_)
 obtain ⟨rfl, hpf⟩ := hI
 have her := probe_rng (n := n) (slots := cv v.rg) (e := e) (by rw [hxs]; simp)
 refine aa ?_
 refine ap (ah rfl) rfl rfl ?_
 refine ae ?_
 refine eK rfl hr .z ?_
 refine aS ?_
 refine ao ?_
 refine aa ?_
 refine ap (aK 6 dP rfl rfl rfl) rfl rfl ?_
 refine ap (aO rfl) rfl rfl ?_
 refine ap (aB d6 rfl) rfl rfl ?_
 refine ap (aB eQ rfl) rfl rfl ?_
 refine ap (cC 2 cc rfl rfl rfl rfl) rfl rfl ?_
 refine ap (ak rfl) rfl rfl ?_
 refine bi rfl ent_69 rfl (c_rAt v.rg e hv.rg (by omega)) (fun w hw => aY) ?_
 refine ap (ak rfl) rfl rfl ?_
 refine ap (aw rfl rfl) rfl rfl ?_
 refine ap (aw rfl rfl) rfl rfl ?_
 refine bc aF rfl rfl (fun b14 => ?_)
 refine aH aF rfl rfl rfl .z rfl rfl rfl rfl ?_
 refine ap (ah rfl) rfl rfl ?_
 refine ae ?_
 refine aj ?_
 refine ao ?_
 refine aa ?_
 refine ap (aK 7 dP rfl rfl rfl) rfl rfl ?_
 refine ap (aM 0 aF rfl rfl rfl rfl) rfl rfl ?_
 refine bi rfl ent_70 rfl (c_vfree v am (atR v.rg e).1 hv (atR_lo _ _)) (fun w hw => (aN (cL 2 rfl hw) (aN (cL 3 rfl hw) (aN (d7 9 rfl hw) aY)))) ?_
 refine bp (t := 60) rfl (fun h14_2 => ?_) (fun h14_2 => ?_)
 refine ae ?_
 refine aj ?_
 refine ay rfl ?_
 refine ao ?_
 refine w_drawVA 20 mixed (fun w h => ((h.anymp (.s (.s (.s (.s (.s (.s (.s (.s (.z)))))))))).anymp (.s (.s (.s (.s (.s (.s (.s (.s (.s (.z)))))))))))) ?_
 refine aV (i := 0) rfl ab (aK 7 dP rfl rfl rfl) (fun w h => ((h.anymp (.s (.s (.s (.s (.s (.s (.s (.s (.z)))))))))).anymp (.s (.s (.s (.s (.s (.s (.s (.s (.s (.z)))))))))))) ar rfl (ai (aZ bK)) (by kernel_rfl) rfl ?_
 refine aV (i := 1) rfl ab (aO rfl) (fun w h => ((h.anymp (.s (.s (.s (.s (.s (.s (.s (.s (.z)))))))))).anymp (.s (.s (.s (.s (.s (.s (.s (.s (.s (.z)))))))))))) ar rfl (ai (aZ bK)) (by kernel_rfl) rfl ?_
 refine aV (i := 2) rfl ab (aB ck rfl) (fun w h => ((h.anymp (.s (.s (.s (.s (.s (.s (.s (.s (.z)))))))))).anymp (.s (.s (.s (.s (.s (.s (.s (.s (.s (.z)))))))))))) ar rfl (ai (aZ bK)) (by kernel_rfl) rfl ?_
 refine aV (i := 3) rfl ab (bd 2 c4 rfl rfl rfl) (fun w h => ((h.anymp (.s (.s (.s (.s (.s (.s (.s (.s (.z)))))))))).anymp (.s (.s (.s (.s (.s (.s (.s (.s (.s (.z)))))))))))) ar rfl (ai (aZ bK)) (by kernel_rfl) rfl ?_
 refine aV (i := 4) rfl ab (aK 3 bE rfl rfl rfl) (fun w h => ((h.anymp (.s (.s (.s (.s (.s (.s (.s (.s (.z)))))))))).anymp (.s (.s (.s (.s (.s (.s (.s (.s (.s (.z)))))))))))) ar rfl (ai (aZ bK)) (by kernel_rfl) rfl ?_
 refine aV (i := 5) rfl ab (aK 7 dP rfl rfl rfl) (fun w h => ((h.anymp (.s (.s (.s (.s (.s (.s (.s (.s (.z)))))))))).anymp (.s (.s (.s (.s (.s (.s (.s (.s (.s (.z)))))))))))) ar rfl (ai (aZ bK)) (by kernel_rfl) rfl ?_
 refine aV (i := 6) rfl ab (aO rfl) (fun w h => ((h.anymp (.s (.s (.s (.s (.s (.s (.s (.s (.z)))))))))).anymp (.s (.s (.s (.s (.s (.s (.s (.s (.s (.z)))))))))))) ar rfl (ai (aZ bK)) (by kernel_rfl) rfl ?_
 refine aV (i := 7) rfl ab (aB d3 rfl) (fun w h => ((h.anymp (.s (.s (.s (.s (.s (.s (.s (.s (.z)))))))))).anymp (.s (.s (.s (.s (.s (.s (.s (.s (.s (.z)))))))))))) ar rfl (ai (aZ bK)) (by kernel_rfl) rfl ?_
 refine aV (i := 8) rfl ab (bd 2 ty_110 rfl rfl rfl) (fun w h => ((h.anymp (.s (.s (.s (.s (.s (.s (.s (.s (.z)))))))))).anymp (.s (.s (.s (.s (.s (.s (.s (.s (.s (.z)))))))))))) ar rfl (ai (aZ bK)) (by kernel_rfl) rfl ?_
 refine aV (i := 9) rfl ab (aM 0 aF rfl rfl rfl rfl) (fun w h => ((h.anymp (.s (.s (.s (.s (.s (.s (.s (.s (.z)))))))))).anymp (.s (.s (.s (.s (.s (.s (.s (.s (.s (.z)))))))))))) ar rfl (ai (aZ bK)) (by kernel_rfl) rfl ?_
 refine aV (i := 10) rfl ab (aK 6 bE rfl rfl rfl) (fun w h => ((h.anymp (.s (.s (.s (.s (.s (.s (.s (.s (.z)))))))))).anymp (.s (.s (.s (.s (.s (.s (.s (.s (.s (.z)))))))))))) ar rfl (ai (aZ bK)) (by kernel_rfl) rfl ?_
 refine aV (i := 11) rfl ab (aM 0 aF rfl rfl rfl rfl) (fun w h => ((h.anymp (.s (.s (.s (.s (.s (.s (.s (.s (.z)))))))))).anymp (.s (.s (.s (.s (.s (.s (.s (.s (.s (.z)))))))))))) ar rfl (ai (aZ bK)) (by kernel_rfl) rfl ?_
 refine aV (i := 12) rfl ab (bl rfl (bu_121_0_1 _ _ _ _)) (fun w h => ((h.anymp (.s (.s (.s (.s (.s (.s (.s (.s (.z)))))))))).anymp (.s (.s (.s (.s (.s (.s (.s (.s (.s (.z)))))))))))) ar rfl (ai (aZ bK)) (by kernel_rfl) rfl ?_
 refine aV (i := 13) rfl ab (aK 3 bE rfl rfl rfl) (fun w h => ((h.anymp (.s (.s (.s (.s (.s (.s (.s (.s (.z)))))))))).anymp (.s (.s (.s (.s (.s (.s (.s (.s (.s (.z)))))))))))) ar rfl (ai (aZ bK)) (by kernel_rfl) rfl ?_
 refine cY (i := 14) rfl (by kernel_rfl) rfl ?_
 refine fu (encK := bB) (encV := bM) Try.underlying109 (bO Try.underlying37) br rfl rfl (d9 h6_8) (fun st => (.s (.s (.s (.s (.s (.s (.s (.s (.z)))))))))) rfl (fun st14 => ?_)
 refine ae ?_
 refine bX (fun w h => ((h.anymq (v0 := eu) rfl (.s (.s (.s (.s (.s (.s (.s (.s (.z)))))))))).anymp (.s (.s (.s (.s (.s (.s (.s (.s (.s (.z)))))))))))) ?_
 refine aV (i := 15) rfl ab (aw rfl rfl) (fun w h => ((h.anymq (v0 := eu) rfl (.s (.s (.s (.s (.s (.s (.s (.s (.z)))))))))).anymp (.s (.s (.s (.s (.s (.s (.s (.s (.s (.z)))))))))))) ar rfl (ai (aZ bK)) (by kernel_rfl) rfl ?_
 refine cY (i := 16) rfl (by kernel_rfl) rfl ?_
 refine o_entSt (encK := bB) (encV := bM) (v := (⟨n, (atR v.rg e).1⟩ : Hd)) rfl rfl rfl (.s (.s (.s (.s (.s (.s (.s (.s (.z))))))))) ?_
 refine ae ?_
 refine bX (fun w h => ((h.anymp (.s (.s (.s (.s (.s (.s (.s (.s (.z)))))))))).anymp (.s (.s (.s (.s (.s (.s (.s (.s (.s (.z)))))))))))) ?_
 refine cY (i := 17) rfl (by kernel_rfl) rfl ?_
 refine fu (encK := dD) (encV := bB) Try.underlying110 fj bE rfl rfl (ff h14_2) (fun st => (.s (.s (.s (.s (.s (.s (.s (.s (.s (.z))))))))))) rfl (fun st15 => ?_)
 refine ae ?_
 refine bX (fun w h => ((h.anymp (.s (.s (.s (.s (.s (.s (.s (.s (.z)))))))))).anymq (v0 := ([] : aL)) rfl (.s (.s (.s (.s (.s (.s (.s (.s (.s (.z)))))))))))) ?_
 refine aV (i := 18) rfl ab (aw rfl rfl) (fun w h => ((h.anymp (.s (.s (.s (.s (.s (.s (.s (.s (.z)))))))))).anymq (v0 := ([] : aL)) rfl (.s (.s (.s (.s (.s (.s (.s (.s (.s (.z)))))))))))) ar rfl (ai (aZ bK)) (by kernel_rfl) rfl ?_
 refine cY (i := 19) rfl (by kernel_rfl) rfl ?_
 refine o_entSt (encK := dD) (encV := bB) (v := (aT n)) rfl rfl rfl (.s (.s (.s (.s (.s (.s (.s (.s (.s (.z)))))))))) ?_
 refine ae ?_
 refine bX (fun w h => ((h.anymp (.s (.s (.s (.s (.s (.s (.s (.s (.z)))))))))).anymp (.s (.s (.s (.s (.s (.s (.s (.s (.s (.z)))))))))))) ?_
 refine eH (by kernel_rfl) ?_
 refine aj ?_
 refine ao ?_
 refine aa ?_
 refine ap (aM 0 aF rfl rfl rfl rfl) rfl rfl ?_
 refine aH aF rfl rfl rfl (.s (.s (.s (.s (.s (.z)))))) rfl rfl rfl rfl ?_
 refine aH cV rfl rfl rfl (.s (.s (.s (.s (.z))))) rfl rfl rfl rfl ?_
 refine ae ?_
 refine aj ?_
 refine aC ?_
 refine aU ?_
 refine e_rret ((some e)) ?_ (bU 1)
 exact ⟨rfl, by rw [List.find?_append, hpf, List.find?_cons_of_pos (p := (fun i => em v.res am (atR v.rg i).1)) h14_2]; rfl, rfl⟩
 refine ae ?_
 refine aj ?_
 refine av rfl ?_
 refine aG ?_
 refine bA ?_
 refine e8 (none) ?_ (bU 1)
 exact ⟨rfl, by rw [List.find?_append, hpf, List.find?_cons_of_neg (by rw [h14_2]; decide)]; rfl⟩
 obtain ⟨rfl, hpf⟩ := hI
 refine bA ?_
 refine aj ?_
 refine ao ?_
 refine aa ?_
 refine ap (bl rfl (d5)) rfl rfl ?_
 refine aH aF rfl rfl rfl (.s (.s (.s (.z)))) rfl rfl rfl rfl ?_
 refine aH cV rfl rfl rfl (.s (.s (.z))) rfl rfl rfl rfl ?_
 refine ae ?_
 refine aj ?_
 refine aC ?_
 refine dV ?_
 refine dF .z ?_
 refine da (rs := [.cell 4 62, .cell 5 31]) rfl (bh 3 aF rfl rfl rfl rfl (dq 2 cV rfl rfl rfl bz)) (fun w hw => ?_)
 obtain ⟨h1, h2, h3⟩ := (hw.weak (.cons _ (.cons _ (.cons _ (.cons _ (.cons _ (.cons _ (.cons_cons _ (.cons_cons _ .slnil)))))))) (fun s hs => hs)).f1.f1.two.uc
 focus first
   | (have hE := cA (v := v) (hm := hm) (am := am) h3_1
      rw [hE]
      exact ⟨(), rfl, h1, h2, h3⟩)
   | (have hE := cG (v := v) (am := am) h3_1 h6_8
      rw [hE]
      exact ⟨(), rfl, h1, h2, h3⟩)
   | (have hE := cm (am := am) h3_1 h6_8 h9_2
      rw [hE]
      exact ⟨(), rfl, h1, h2, h3⟩)
   | (have hE := bJ (am := am) h3_1 h6_8 h9_2 (show bu v am n = none from hpf)
      rw [hE]
      exact ⟨(), rfl, h1, h2, h3⟩)
   | (have hq : bu v am n = g := by
        rw [bu, hxs, List.find?_append, ← hq9]
        cases g with
        | none => cases hqs
        | some y => rfl
      have hE := bJ (am := am) h3_1 h6_8 h9_2 hq
      rw [hqs, if_pos rfl] at hE
      rw [hE]
      exact ⟨(), rfl, h1, h2, h3⟩)
   | (trace_state; fail)
 obtain ⟨rfl, hq9, hqs⟩ := hI
 refine aC ?_
 refine aU ?_
 refine aA ?_
 refine dV ?_
 refine dF .z ?_
 refine da (rs := [.cell 4 62, .cell 5 31]) rfl (bh 3 aF rfl rfl rfl rfl (dq 2 cV rfl rfl rfl bz)) (fun w hw => ?_)
 obtain ⟨h1, h2, h3⟩ := (hw.weak (.cons _ (.cons _ (.cons _ (.cons _ (.cons _ (.cons _ (.cons_cons _ (.cons_cons _ .slnil)))))))) (fun s hs => hs)).f1.f1.two.uc
 focus first
   | (have hE := cA (v := v) (hm := hm) (am := am) h3_1
      rw [hE]
      exact ⟨(), rfl, h1, h2, h3⟩)
   | (have hE := cG (v := v) (am := am) h3_1 h6_8
      rw [hE]
      exact ⟨(), rfl, h1, h2, h3⟩)
   | (have hE := cm (am := am) h3_1 h6_8 h9_2
      rw [hE]
      exact ⟨(), rfl, h1, h2, h3⟩)
   | (have hE := bJ (am := am) h3_1 h6_8 h9_2 (show bu v am n = none from hpf)
      rw [hE]
      exact ⟨(), rfl, h1, h2, h3⟩)
   | (have hq : bu v am n = g := by
        rw [bu, hxs, List.find?_append, ← hq9]
        cases g with
        | none => cases hqs
        | some y => rfl
      have hE := bJ (am := am) h3_1 h6_8 h9_2 hq
      rw [hqs, if_pos rfl] at hE
      rw [hE]
      exact ⟨(), rfl, h1, h2, h3⟩)
   | (trace_state; fail)
 exact wrv_nil
 refine ap (bG rfl) rfl rfl ?_
 refine ap (ah rfl) rfl rfl ?_
 refine ae ?_
 refine aj ?_
 refine ay rfl ?_
 refine ao ?_
 refine aa ?_
 refine ap (bl rfl (d5)) rfl rfl ?_
 refine aH aF rfl rfl rfl (.s (.z)) rfl rfl rfl rfl ?_
 refine aH cV rfl rfl rfl .z rfl rfl rfl rfl ?_
 refine ae ?_
 refine aj ?_
 refine aC ?_
 refine aU ?_
 refine aA ?_
 refine dV ?_
 refine da (rs := [.cell 4 62, .cell 5 31]) rfl (bh 1 aF rfl rfl rfl rfl (dq 0 cV rfl rfl rfl bz)) (fun w hw => ?_)
 obtain ⟨h1, h2, h3⟩ := (hw.weak (.cons _ (.cons _ (.cons _ (.cons _ (.cons_cons _ (.cons_cons _ .slnil)))))) (fun s hs => hs)).f1.f1.two.uc
 focus first
   | (have hE := cA (v := v) (hm := hm) (am := am) h3_1
      rw [hE]
      exact ⟨(), rfl, h1, h2, h3⟩)
   | (have hE := cG (v := v) (am := am) h3_1 h6_8
      rw [hE]
      exact ⟨(), rfl, h1, h2, h3⟩)
   | (have hE := cm (am := am) h3_1 h6_8 h9_2
      rw [hE]
      exact ⟨(), rfl, h1, h2, h3⟩)
   | (have hE := bJ (am := am) h3_1 h6_8 h9_2 (show bu v am n = none from hpf)
      rw [hE]
      exact ⟨(), rfl, h1, h2, h3⟩)
   | (have hq : bu v am n = g := by
        rw [bu, hxs, List.find?_append, ← hq9]
        cases g with
        | none => cases hqs
        | some y => rfl
      have hE := bJ (am := am) h3_1 h6_8 h9_2 hq
      rw [hqs, if_pos rfl] at hE
      rw [hE]
      exact ⟨(), rfl, h1, h2, h3⟩)
   | (trace_state; fail)
end Go.Proofs.Ytnpdgmoeoidppaa
