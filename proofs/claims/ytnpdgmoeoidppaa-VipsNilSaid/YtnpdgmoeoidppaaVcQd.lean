import Derived.Test.YtnpdgmoeoidppaaLzQd
/- vips: a pool -/
namespace Go.Proofs.Ytnpdgmoeoidppaa
open Go.RowKit Go.Shelf
set_option linter.unusedVariables false
set_option linter.unusedSimpArgs false

theorem bu_121_0_1 (x0 : aK) (x1 : Bool) (x2 : Int) (x3 : Int) : Try.prog.built 121 [(0, .string (ba x0)), (1, .agg [.bool x1, .int .u64 x2, .int .u64 x3].toArray)] = some [.string (ba x0), .bool x1, .int .u64 x2, .int .u64 x3].toArray := by kernel_rfl
theorem ent_107 : Enters Try.prog 107 := enters_of Try.func107 (by kernel_rfl) rfl
theorem ent_35 : Enters Try.prog 35 := enters_of Try.func35 (by kernel_rfl) rfl
theorem ent_62 : Enters Try.prog 62 := enters_of Try.func62 (by kernel_rfl) rfl
theorem ent_66 : Enters Try.prog 66 := enters_of Try.func66 (by kernel_rfl) rfl
theorem ent_67 : Enters Try.prog 67 := enters_of Try.func67 (by kernel_rfl) rfl
theorem ent_69 : Enters Try.prog 69 := enters_of Try.func69 (by kernel_rfl) rfl
theorem ent_70 : Enters Try.prog 70 := enters_of Try.func70 (by kernel_rfl) rfl
theorem dz : FA Try.prog 113 0 0 := fun b o w => by kernel_rfl
theorem cH : FA Try.prog 113 1 5 := fun b o w => by kernel_rfl
theorem eu : FA Try.prog 113 2 6 := fun b o w => by kernel_rfl
theorem fa_113_3 : FA Try.prog 113 3 7 := fun b o w => by kernel_rfl
theorem fa_121_1 : FA Try.prog 121 1 1 := fun b o w => by kernel_rfl
theorem dO : FA Try.prog 67 0 0 := fun b o w => by kernel_rfl
theorem ey : FA Try.prog 67 1 4 := fun b o w => by kernel_rfl
theorem d7 : TyI Try.prog 109 false 1 8 (.map none) := TyI.mk' (by kernel_rfl) (fun _ => by kernel_rfl)
theorem ty_110 : TyI Try.prog 110 false 1 8 (.map none) := TyI.mk' (by kernel_rfl) (fun _ => by kernel_rfl)
theorem bG : TyI Try.prog 121 true 4 40 (.agg #[.string ⟨#[]⟩, .bool false, .int .u64 0, .int .u64 0]) := TyI.mk' (by kernel_rfl) (fun _ => by kernel_rfl)
theorem bI : TyI Try.prog 31 false 1 8 (.int .i64 0) := TyI.mk' (by kernel_rfl) (fun _ => by kernel_rfl)
theorem cE : TyI Try.prog 57 false 1 8 (.pointer none) := TyI.mk' (by kernel_rfl) (fun _ => by kernel_rfl)

abbrev cr : Hd → Value := fun h => .agg (hdC h).toArray
/-- A pool that was made: its range, what is reserved, its room, where it lies. -/
structure Vp where
  rg : Rg
  res : List Rg
  A : Option Addr
  c : Nat
  room : Int
  b : Nat
  rh : Nat
  ra : Nat
def plC (r : Rg) (A : Option Addr) (n c : Nat) : List Value := [.bool r.base.six, .int .u64 r.base.hi, .int .u64 r.base.lo, .int .i64 r.bits, .slice A n c]
def vpC (v : Vp) : List Value := [.bool v.rg.base.six, .int .u64 v.rg.base.hi, .int .u64 v.rg.base.lo, .int .i64 v.rg.bits, .slice v.A v.res.length v.c, .map (some v.rh), .map (some v.ra), .int .i64 v.room]
structure VOk (v : Vp) : Prop where
  rg : RgOk v.rg
  res : ∀ x ∈ v.res, RgOk x
  len : v.res.length ≤ 1000000000000
  room : 0 ≤ v.room ∧ v.room ≤ 65536
abbrev Hm := List (aK × Hd)
abbrev Am := List (Ad × aK)
def vmC (v : Vp) (hm : Hm) (am : Am) : Ch := Ch.two (Ch.mp v.rh bT cr hm) (Ch.mp v.ra em bT am)
def cksR : List Rg → Int
  | [] => 0
  | r :: t => if cY r ≠ 0 then cY r else cksR t
theorem cksR_drop {l : List Rg} {k : Nat} (hk : k < l.length) (h : cksR l = cksR (l.drop k)) : cksR l = if cY (l.getD k rg0) ≠ 0 then cY (l.getD k rg0) else cksR (l.drop (k + 1)) := by
  rw [h, dM l rg0 k hk, cksR]
def cF (n : aK) : Bool := decide (n ≠ []) && decide (a4 n = 0)
def dl (res : List Rg) (am : Am) (a : Ad) : Bool := !(cM am a).isSome && di res a
def adO (v : Vp) (g : Option Int) : Ad := match g with | none => ad0 | some i => (atR v.rg i).1
def hmO (v : Vp) (hm : Hm) (n : aK) (g : Option Int) : Hm := match g with | none => hm | some i => hm ++ [(a2 n, ⟨n, (atR v.rg i).1⟩)]
def amO (v : Vp) (am : Am) (n : aK) (g : Option Int) : Am := match g with | none => am | some i => am ++ [((atR v.rg i).1, a2 n)]
def a7 (v : Vp) (am : Am) (n : aK) : Option Int := (bZ n (bF v.rg)).find? fun i => dl v.res am (atR v.rg i).1
def bv (v : Vp) (hm : Hm) (am : Am) (n : aK) : (Ad × Int) × Hm × Am :=
  if cF n = false then ((ad0, 2), hm, am) else
  match cM hm (a2 n) with
  | some h => ((h.ad, 0), hm, am)
  | none => if v.room - hm.length = 0 then ((ad0, 10), hm, am) else
    ((adO v (a7 v am n), if (a7 v am n).isSome = true then 0 else 10), hmO v hm n (a7 v am n), amO v am n (a7 v am n))
theorem bX {v : Vp} {hm : Hm} {am : Am} {n : aK} (h : cF n = false) : bv v hm am n = ((ad0, 2), hm, am) := if_pos h
theorem bW {v : Vp} {hm : Hm} {am : Am} {n : aK} (h : cF n = true) (h2 : (cM hm (a2 n)).isSome = true) : bv v hm am n = ((((cM hm (a2 n)).getD hd0).ad, 0), hm, am) := by
  rw [bv, if_neg (by rw [h]; decide)]
  cases h3 : cM hm (a2 n) with
  | none => rw [h3] at h2; cases h2
  | some x => rfl
theorem bH {v : Vp} {hm : Hm} {am : Am} {n : aK} (h : cF n = true) (h2 : (cM hm (a2 n)).isSome = false) (h4 : v.room - hm.length = 0) : bv v hm am n = ((ad0, 10), hm, am) := by
  rw [bv, if_neg (by rw [h]; decide)]
  cases h3 : cM hm (a2 n) with
  | some x => rw [h3] at h2; cases h2
  | none => exact if_pos h4
theorem bp {v : Vp} {hm : Hm} {am : Am} {n : aK} (h : cF n = true) (h2 : (cM hm (a2 n)).isSome = false) (h4 : ¬ v.room - hm.length = 0) {g : Option Int} (hg : a7 v am n = g) : bv v hm am n = ((adO v g, if g.isSome = true then 0 else 10), hmO v hm n g, amO v am n g) := by
  subst hg
  rw [bv, if_neg (by rw [h]; decide)]
  cases h3 : cM hm (a2 n) with
  | some x => rw [h3] at h2; cases h2
  | none => exact if_neg h4
def dropK (hm : Hm) (am : Am) (key : aK) : Hm × Am := (rmv hm key, rmv am ((cM hm key).getD hd0).ad)
def cb (hm : Hm) (am : Am) (n : aK) : Int × Hm × Am := if cF n = false then (2, hm, am) else if (cM hm (a2 n)).isSome = false then (5, hm, am) else (0, dropK hm am (a2 n))
theorem look2_hd {o : Option Hd} : Value.tuple [(o.map cr).getD (.agg [.string .empty, .bool false, .int .u64 0, .int .u64 0].toArray), .bool o.isSome].toArray = .tuple #[.agg (hdC (o.getD hd0)).toArray, .bool o.isSome] := by cases o <;> rfl
theorem look1_hd {o : Option Hd} : (o.map cr).getD (.agg [.string .empty, .bool false, .int .u64 0, .int .u64 0].toArray) = .agg (hdC (o.getD hd0)).toArray := by cases o <;> rfl
theorem look2_n {o : Option aK} : Value.tuple [(o.map bT).getD (.string .empty), .bool o.isSome].toArray = .tuple #[.string (ba (o.getD [])), .bool o.isSome] := by cases o <;> rfl
theorem d8 {α β : Type} [DecidableEq α] {m : List (α × β)} {a : α} (h : (cM m a).isSome = false) : cM m a = none := by
  cases hh : cM m a with
  | none => rfl
  | some x => rw [hh] at h; cases h
theorem freeV_free {res : List Rg} {am : Am} {a : Ad} (h : dl res am a = true) : cM am a = none := d8 (by
  simp only [dl, Bool.and_eq_true, Bool.not_eq_true'] at h; exact h.1)

theorem c_vCheck (rg : Rg) (res : List Rg) (A : Option Addr) (c : Nat) (hr : RgOk rg) (hrs : ∀ x ∈ res, RgOk x) (hl : res.length ≤ 1000000000000) : RC Try.prog 37 #[.agg (plC rg A res.length c).toArray] [Ch.rd A 4 dC res] (α := Unit) (fun _ => .int .i64 (cksR (rg :: res))) (fun _ => []) := by
 refine aY (args := [.agg (plC rg A res.length c).toArray]) 23 Try.func37 rfl rfl rfl (fun w0 => ?_)
 have hall : ∀ x ∈ [rg] ++ res, RgOk x := fun x hx => (List.mem_append.1 hx).elim (fun h => by rw [List.mem_singleton.1 h]; exact hr) (hrs x)
 have hle : ([rg] ++ res).length = res.length + 1 := by simp
 refine ak ?_
 refine aa ?_
 refine bj rfl rfl rfl (fun b1 => ?_)
 refine ap (ai rfl) rfl rfl ?_
 refine ae ?_
 refine aj ?_
 refine ak ?_
 refine ak ?_
 refine aa ?_
 refine ap (aB dO rfl) rfl rfl ?_
 refine ap (aJ 0 bA rfl rfl rfl rfl) rfl rfl ?_
 refine o_bsl (vs := [_]) ([rg] : List (Rg)) enc_rg Try.underlying65 bA rfl rfl rfl rfl rfl rfl (fun As2 => ?_)
 refine ap (aB ey rfl) rfl rfl ?_
 refine ap (aF 1 ty_65 rfl rfl rfl) rfl rfl ?_
 refine o_appm (enc := dC) (sz := 4) res Try.underlying65 bA rfl rfl rfl (fun A c => .z) (src_S 0 Try.underlying65 rfl) (by simp only [List.length_cons, List.length_nil]; omega) (by simp only [List.length_cons, List.length_nil]; omega) rfl (fun A2 c2 => ?_)
 refine ap (cB Try.underlying65 rfl) rfl rfl ?_
 refine ap (ao rfl) rfl rfl ?_
 refine ae ?_
 refine aj ?_
 refine aR ?_
 refine dP (σ := Nat) [2, 4, 5, 13, 14, 15, 16, 17, 18, 19, 20, 21, 22] (fun k => k ≤ ([rg] ++ res).length ∧ cksR ([rg] ++ res) = cksR (([rg] ++ res).drop k)) (fun k => ([rg] ++ res).length - k) (fun k => [(13, .int .i64 k)]) (0) ?_ ⟨rfl, trivial⟩ (fun k hI => ?_)
 exact ⟨Nat.zero_le _, rfl⟩
 refine ak ?_
 refine aa ?_
 refine ap (cG rfl rfl) rfl rfl ?_
 refine aH (t := 14) rfl (fun h2_0 => ?_) (fun h2_0 => ?_)
 have hk : k < ([rg] ++ res).length := by omega
 have hck := cksR_drop hk hI.2
 have hxk := hall _ (dB (d := rg0) hk)
 refine ae ?_
 refine aj ?_
 refine ak ?_
 refine ax rfl ?_
 refine aM ?_
 refine aj ?_
 refine ak ?_
 refine aR ?_
 refine ak ?_
 refine aa ?_
 refine ap (el  Try.underlying65 bA rfl rfl (rs_L 0 rfl) rfl (by omega)) rfl rfl ?_
 refine ap (y_ldsm0 enc_rg rg0 bA rfl (rs_L 0 rfl) (by omega) rfl rfl rfl) rfl rfl ?_
 refine a0 bA rfl rfl (fun b4 => ?_)
 refine aE bA rfl rfl rfl .z rfl rfl rfl rfl ?_
 refine ae ?_
 refine aj ?_
 refine ak ?_
 refine aa ?_
 refine ap (aJ 0 bA rfl rfl rfl rfl) rfl rfl ?_
 refine aO rfl ent_77 (c_rCheck (([rg] ++ res).getD k rg0) hxk.lo.1) rfl ?_
 refine ap (ai rfl) rfl rfl ?_
 refine ae ?_
 refine aj ?_
 refine ak ?_
 refine aa ?_
 refine ap (ao rfl) rfl rfl ?_
 refine ap (cN rfl rfl) rfl rfl ?_
 refine aH (t := 20) rfl (fun h5_1 => ?_) (fun h5_1 => ?_)
 refine ae ?_
 refine aj ?_
 refine ax rfl ?_
 refine ak ?_
 refine aa ?_
 refine ap (ao rfl) rfl rfl ?_
 refine ap (ai rfl) rfl rfl ?_
 refine ae ?_
 refine aj ?_
 refine aC ?_
 refine aS ?_
 refine aw ?_
 refine bP ?_
 refine aS ?_
 refine aw ?_
 refine aI (ts := [2]) rfl rfl rfl (fun w hw => ?_)
 have hE : cksR (rg :: res) = cY (([rg] ++ res).getD k rg0) := hck.trans (if_pos h5_1)
 exact ⟨(), by rw [hE]; rfl, hw.base, (hw.weak (List.nil_sublist _) (fun s hs => hs)).toNews⟩
 refine ae ?_
 refine aj ?_
 refine ay rfl ?_
 refine aM ?_
 refine bz ?_
 refine aj ?_
 refine aa ?_
 refine ap (bQ rfl rfl (by omega) (by omega)) rfl rfl ?_
 refine ap (ao rfl) rfl rfl ?_
 refine ae ?_
 refine cj (k + 1) ?_ ?_ ⟨rfl, trivial⟩ (by repeat (first | exact trivial | refine ⟨rfl, ?_⟩)) (bM 1)
 exact ⟨by omega, by rw [hck, if_neg h5_1]⟩
 omega
 refine ae ?_
 refine aj ?_
 refine ak ?_
 refine ay rfl ?_
 refine cm ?_
 refine bh ?_
 refine a9 ?_
 refine bn ?_
 refine aj ?_
 refine ak ?_
 refine aa ?_
 refine ap (ai rfl) rfl rfl ?_
 refine ae ?_
 refine aj ?_
 refine aC ?_
 refine aI (ts := [2]) rfl rfl rfl (fun w hw => ?_)
 have hE : cksR (rg :: res) = 0 := by
   have h9 := hI.2
   rw [List.drop_of_length_le (by omega)] at h9; exact h9
 exact ⟨(), by rw [hE]; rfl, hw.base, (hw.weak (List.nil_sublist _) (fun s hs => hs)).toNews⟩

theorem c_Clone_rg (l : List Rg) (A : Option Addr) (c : Nat) (hl : l.length ≤ 1000000000000) : RC Try.prog 60 #[.slice A l.length c] [Ch.rd A 4 dC l] (α := Option Addr × Nat) (fun p => .slice p.1 l.length p.2) (fun p => [Ch.ls p.1 p.2 64 4 dC l]) := by
 refine aY (args := [.slice A l.length c]) 8 Try.func60 rfl rfl rfl (fun w0 => ?_)
 refine ak ?_
 refine aa ?_
 refine ap (ai rfl) rfl rfl ?_
 refine ae ?_
 refine aj ?_
 refine ak ?_
 refine ak ?_
 refine aa ?_
 refine ap (ao rfl) rfl rfl ?_
 refine ap (y_eqsn Try.underlying65 rfl rfl) rfl rfl ?_
 refine bg (t := 4) rfl (fun h1_1 => ?_) (fun h1_1 => ?_)
 refine ae ?_
 refine aj ?_
 refine ax rfl ?_
 refine ak ?_
 refine aa ?_
 refine ap (ai rfl) rfl rfl ?_
 refine ae ?_
 refine aj ?_
 refine aC ?_
 refine aw ?_
 refine aI (ts := [2]) rfl rfl rfl (fun w hw => ?_)
 have hr : RsP A l.length 4 _ w := hw.sh _ List.mem_cons_self
 have h0 : l = [] := List.length_eq_zero_iff.1 (rs_none hr h1_1)
 subst h0
 exact ⟨(none, 0), rfl, hw.base, (hw.nilsl 64 4).toNews⟩
 refine ae ?_
 refine aj ?_
 refine ay rfl ?_
 refine aM ?_
 refine aj ?_
 refine ak ?_
 refine aa ?_
 refine o_bsl (vs := []) ([] : List (Rg)) enc_rg Try.underlying65 bA rfl rfl rfl rfl rfl rfl (fun As1 => ?_)
 refine ap (ao rfl) rfl rfl ?_
 refine o_appm (enc := dC) (sz := 4) l Try.underlying65 bA rfl rfl rfl (fun A c => .z) (src_S 0 Try.underlying65 rfl) (by simp only [List.length_cons, List.length_nil, Nat.zero_add]; omega) (by simp only [List.length_cons, List.length_nil, Nat.zero_add]; omega) rfl (fun A1 c1 => ?_)
 refine ap (ai rfl) rfl rfl ?_
 refine ae ?_
 refine aj ?_
 refine aC ?_
 refine aI (ts := [2]) rfl rfl rfl (fun w hw => ?_)
 exact ⟨(A1, c1), rfl, hw.base, hw.toNews⟩

theorem c_vhost (n : aK) : cx Try.prog 62 #[.string (ba n)] (.bool (cF n)) := by
 intro w0
 refine aV (ok0 := no) (S := []) (args := [.string (ba n)]) 10 Try.func62 rfl rfl rfl (by simp) (by simp) ?_
 refine ak ?_
 refine aa ?_
 refine ap (ai rfl) rfl rfl ?_
 refine ae ?_
 refine aj ?_
 refine ak ?_
 refine aa ?_
 refine ap (ao rfl) rfl rfl ?_
 refine ap (y_neqs rfl rfl) rfl rfl ?_
 refine aH (t := 4) rfl (fun h1_1 => ?_) (fun h1_1 => ?_)
 refine ap (ao rfl) rfl rfl ?_
 refine az rfl rfl ?_
 refine ap (ao rfl) rfl rfl ?_
 refine az rfl rfl ?_
 refine aO rfl ent_56 (ez _) rfl ?_
 refine az rfl rfl ?_
 refine ap (ct rfl rfl) rfl rfl ?_
 refine ap (aL rfl rfl) rfl rfl ?_
 refine ap (ai rfl) rfl rfl ?_
 refine ae ?_
 refine aj ?_
 refine aC ?_
 refine aI (ts := [2]) rfl rfl rfl (fun w hw => ?_)
 refine ⟨?_, hw.base⟩
 show Ending.returned (.bool _) = _
 congr 2
 focus first
   | (rw [cF, decide_eq_true h1_1]; rfl)
   | (rw [cF, decide_eq_false h1_1]; rfl)
   | (trace_state; fail)
 refine ap (ao rfl) rfl rfl ?_
 refine aW rfl rfl rfl rfl ?_
 refine aW rfl rfl rfl rfl ?_
 refine aW rfl rfl rfl rfl ?_
 refine ap (aU rfl rfl) rfl rfl ?_
 refine ap (ai rfl) rfl rfl ?_
 refine ae ?_
 refine aj ?_
 refine aC ?_
 refine aI (ts := [2]) rfl rfl rfl (fun w hw => ?_)
 refine ⟨?_, hw.base⟩
 show Ending.returned (.bool _) = _
 congr 2
 focus first
   | (rw [cF, decide_eq_true h1_1]; rfl)
   | (rw [cF, decide_eq_false h1_1]; rfl)
   | (trace_state; fail)

set_option maxRecDepth 100000 in
theorem c_vFree (v : Vp) (hm : Hm) (hv : VOk v) (hml : hm.length ≤ 1000000) : RC Try.prog 35 #[.pointer (some ⟨v.b, 0, none⟩)] [Ch.row v.b (vpC v) 113, Ch.mp v.rh bT cr hm] (α := Unit) (fun _ => .int .i64 (v.room - hm.length)) (fun _ => []) := by
 refine aY (args := [.pointer (some ⟨v.b, 0, none⟩)]) 15 Try.func35 rfl rfl rfl (fun w0 => ?_)
 refine ak ?_
 refine aa ?_
 refine ap (ai rfl) rfl rfl ?_
 refine ae ?_
 refine aj ?_
 refine ak ?_
 refine ak ?_
 refine aa ?_
 refine ap (ao rfl) rfl rfl ?_
 refine ap (cL Try.underlying57 rfl rfl) rfl rfl ?_
 refine bD (t := 4) (.bool false) rfl (congrArg Value.bool rfl) ?_
 refine ae ?_
 refine aj ?_
 refine ay rfl ?_
 refine aM ?_
 refine aj ?_
 refine ak ?_
 refine dd 11 rfl cq ?_
 have hvr := hv.room
 refine ar (i := 0) rfl ab (ao rfl) av av rfl (ah aq) (by kernel_rfl) rfl ?_
 refine ar (i := 1) rfl ab (aQ rfl) av av rfl (ah aq) (by kernel_rfl) rfl ?_
 refine ar (i := 2) rfl ab (aB fa_113_3 rfl) av av rfl (ah aq) (by kernel_rfl) rfl ?_
 refine ar (i := 3) rfl ab (bc 0 ed rfl rfl rfl) av av rfl (ah aq) (by kernel_rfl) rfl ?_
 refine ar (i := 4) rfl ab (ao rfl) av av rfl (ah aq) (by kernel_rfl) rfl ?_
 refine ar (i := 5) rfl ab (aQ rfl) av av rfl (ah aq) (by kernel_rfl) rfl ?_
 refine ar (i := 6) rfl ab (aB cH rfl) av av rfl (ah aq) (by kernel_rfl) rfl ?_
 refine ar (i := 7) rfl ab (bc 0 d7 rfl rfl rfl) av av rfl (ah aq) (by kernel_rfl) rfl ?_
 refine ar (i := 8) rfl ab (y_lenmp (encK := bT) (encV := cr) Try.underlying109 rfl (fun w hw => hw.sh _ (List.mem_of_getElem? (i := 1) rfl))) av av rfl (ah aq) (by kernel_rfl) rfl ?_
 refine ar (i := 9) rfl ab (y_subi rfl rfl (by omega) (by omega)) av av rfl (ah aq) (by kernel_rfl) rfl ?_
 refine ar (i := 10) rfl ab (ai rfl) av av rfl (ah aq) (by kernel_rfl) rfl ?_
 refine bK (by kernel_rfl) ?_
 refine aj ?_
 refine aC ?_
 refine aI (ts := [2]) rfl rfl rfl (fun w hw => ?_)
 exact ⟨(), rfl, hw.base, (hw.weak (List.nil_sublist _) (fun s hs => hs)).toNews⟩

set_option maxRecDepth 100000 in
theorem c_vfree (v : Vp) (am : Am) (a : Ad) (hv : VOk v) (ha : 0 ≤ a.lo) : RC Try.prog 70 #[.pointer (some ⟨v.b, 0, none⟩), .agg (c5 a).toArray] [Ch.row v.b (vpC v) 113, Ch.rd v.A 4 dC v.res, Ch.mp v.ra em bT am] (α := Unit) (fun _ => .bool (dl v.res am a)) (fun _ => []) := by
 refine aY (args := [.pointer (some ⟨v.b, 0, none⟩), .agg (c5 a).toArray]) 25 Try.func70 rfl rfl rfl (fun w0 => ?_)
 refine ak ?_
 refine aa ?_
 refine bj rfl rfl rfl (fun b1 => ?_)
 refine ap (ai rfl) rfl rfl ?_
 refine ae ?_
 refine aj ?_
 refine ak ?_
 refine ak ?_
 refine w_drawU 11 rfl cq ?_
 refine aT (i := 0) rfl ab (ao rfl) av av rfl (ah (ah aq)) (by kernel_rfl) rfl ?_
 refine aT (i := 1) rfl ab (aQ rfl) av av rfl (ah (ah aq)) (by kernel_rfl) rfl ?_
 refine aT (i := 2) rfl ab (aB eu rfl) av av rfl (ah (ah aq)) (by kernel_rfl) rfl ?_
 refine aT (i := 3) rfl ab (bc 0 ty_110 rfl rfl rfl) av av rfl (ah (ah aq)) (by kernel_rfl) rfl ?_
 refine aT (i := 4) rfl ab (aJ 0 aD rfl rfl rfl rfl) av av rfl (ah (ah aq)) (by kernel_rfl) rfl ?_
 refine cK (i := 5) rfl rfl rfl (fun _ _ _ => bb (by kernel_rfl)) (by kernel_rfl) rfl ?_
 refine ap (dG Try.underlying110 keyl_ad ce rfl rfl (fun w hw => hw.sh _ (List.mem_of_getElem? (i := 2) rfl))) rfl rfl ?_
 refine ae ?_
 refine bo av ?_
 refine wu_as (t := 13) (.tuple #[.string (ba ((cM am a).getD [])), .bool (cM am a).isSome]) rfl look2_n ?_
 refine aT (i := 6) rfl ab (ao rfl) av av rfl (ah (ah aq)) (by kernel_rfl) rfl ?_
 refine aT (i := 7) rfl ab (aA rfl rfl) av av rfl (ah (ah aq)) (by kernel_rfl) rfl ?_
 refine aT (i := 8) rfl ab (aA rfl rfl) av av rfl (ah (ah aq)) (by kernel_rfl) rfl ?_
 refine wu_splitb (t := 15) rfl (fun h1_8 => ?_) (fun h1_8 => ?_)
 refine aT (i := 9) rfl ab (ai rfl) av av rfl (ah (ah aq)) (by kernel_rfl) rfl ?_
 refine aT (i := 10) rfl ab (ai rfl) av av rfl (ah (ah aq)) (by kernel_rfl) rfl ?_
 refine dg (by kernel_rfl) ?_
 refine aj ?_
 refine ak ?_
 refine aa ?_
 refine ap (ao rfl) rfl rfl ?_
 refine ae ?_
 refine aj ?_
 refine ax rfl ?_
 refine ak ?_
 refine aa ?_
 refine ap (ai rfl) rfl rfl ?_
 refine ae ?_
 refine aj ?_
 refine aC ?_
 refine aw ?_
 refine aI (ts := [4]) rfl rfl rfl (fun w hw => ?_)
 refine ⟨(), ?_, hw.base, (hw.weak (List.nil_sublist _) (fun s hs => hs)).toNews⟩
 show Ending.returned (.bool _) = _
 congr 2
 focus first
   | (rw [dl, h1_8]; rfl)
   | (trace_state; fail)
 refine aT (i := 9) rfl ab (ai rfl) av av rfl (ah (ah aq)) (by kernel_rfl) rfl ?_
 refine aT (i := 10) rfl ab (ai rfl) av av rfl (ah (ah aq)) (by kernel_rfl) rfl ?_
 refine dg (by kernel_rfl) ?_
 refine aj ?_
 refine ak ?_
 refine aa ?_
 refine ap (ao rfl) rfl rfl ?_
 refine ae ?_
 refine aj ?_
 refine ay rfl ?_
 refine aM ?_
 refine aj ?_
 refine ak ?_
 refine aa ?_
 refine ap (ao rfl) rfl rfl ?_
 refine ap (aQ rfl) rfl rfl ?_
 refine ap (aB dz rfl) rfl rfl ?_
 refine ap (aB ey rfl) rfl rfl ?_
 refine ap (bc 0 ty_65 rfl rfl rfl) rfl rfl ?_
 refine ap (cJ rfl rfl) rfl rfl ?_
 refine bk rfl ent_100 rfl (c_cntV v.res v.A v.c a b1 hv.res ha hv.len) (fun w hw => (aX (dv 1 rfl hw) (aX (rd_L 0 rfl hw) a8))) ?_
 refine ap (bJ rfl) rfl rfl ?_
 refine ap (ai rfl) rfl rfl ?_
 refine ae ?_
 refine aj ?_
 refine aC ?_
 refine aI (ts := [4]) rfl rfl rfl (fun w hw => ?_)
 refine ⟨(), ?_, hw.base, (hw.weak (List.nil_sublist _) (fun s hs => hs)).toNews⟩
 show Ending.returned (.bool _) = _
 congr 2
 focus first
   | (rw [dl, h1_8]; rfl)
   | (trace_state; fail)

set_option maxRecDepth 100000 in
theorem c_vdrop (v : Vp) (hm : Hm) (am : Am) (key : aK) : UC Try.prog 66 #[.pointer (some ⟨v.b, 0, none⟩), .string (ba key)] [Ch.row v.b (vpC v) 113] (vmC v hm am) (α := Unit) (fun _ => .tuple #[]) (fun _ => vmC v (dropK hm am key).1 (dropK hm am key).2) := by
 refine dh (args := [.pointer (some ⟨v.b, 0, none⟩), .string (ba key)]) 20 Try.func66 rfl rfl rfl (fun w0 => ?_)
 refine d2 (fun w h => h.untwo) ?_
 refine ak ?_
 refine w_drawU 11 rfl cq ?_
 refine aT (i := 0) rfl ab (ao rfl) av av rfl (ah aq) (by kernel_rfl) rfl ?_
 refine aT (i := 1) rfl ab (aQ rfl) av av rfl (ah aq) (by kernel_rfl) rfl ?_
 refine aT (i := 2) rfl ab (aB eu rfl) av av rfl (ah aq) (by kernel_rfl) rfl ?_
 refine aT (i := 3) rfl ab (bc 0 ty_110 rfl rfl rfl) av av rfl (ah aq) (by kernel_rfl) rfl ?_
 refine aT (i := 4) rfl ab (ao rfl) av av rfl (ah aq) (by kernel_rfl) rfl ?_
 refine aT (i := 5) rfl ab (aQ rfl) av av rfl (ah aq) (by kernel_rfl) rfl ?_
 refine aT (i := 6) rfl ab (aB cH rfl) av av rfl (ah aq) (by kernel_rfl) rfl ?_
 refine aT (i := 7) rfl ab (bc 0 d7 rfl rfl rfl) av av rfl (ah aq) (by kernel_rfl) rfl ?_
 refine aT (i := 8) rfl ab (ao rfl) av av rfl (ah aq) (by kernel_rfl) rfl ?_
 refine cK (i := 9) rfl rfl rfl (fun _ _ _ => bb (by kernel_rfl)) (by kernel_rfl) rfl ?_
 refine ap (y_lookup Try.underlying109 (cD Try.underlying37) bG rfl rfl (fun w hw => hw.own _ (List.mem_of_getElem? (i := 0) rfl))) rfl rfl ?_
 refine ae ?_
 refine bo av ?_
 refine wu_as (t := 13) (.agg (hdC ((cM hm key).getD hd0)).toArray) rfl look1_hd ?_
 refine aT (i := 10) rfl ab (y_fieldv (v := .agg (c5 ((cM hm key).getD hd0).ad).toArray) rfl (fun w => by kernel_rfl)) av av rfl (ah aq) (by kernel_rfl) rfl ?_
 refine cK (i := 11) rfl rfl rfl (fun _ _ _ => bb (by kernel_rfl)) (by kernel_rfl) rfl ?_
 refine o_mapDel (encK := em) (encV := bT) (a := ((cM hm key).getD hd0).ad) Try.underlying110 keyl_ad rfl rfl (.s (.z)) ?_
 refine ae ?_
 refine eu_tail rfl ?_
 refine dg (by kernel_rfl) ?_
 refine aj ?_
 refine aa ?_
 refine ap (ao rfl) rfl rfl ?_
 refine ap (aQ rfl) rfl rfl ?_
 refine ap (aB cH rfl) rfl rfl ?_
 refine ap (bc 0 d7 rfl rfl rfl) rfl rfl ?_
 refine ap (ao rfl) rfl rfl ?_
 refine o_mapDel (encK := bT) (encV := cr) (a := key) Try.underlying109 (cD Try.underlying37) rfl rfl .z ?_
 refine ae ?_
 refine e_end (ts := []) rfl rfl rfl (fun w hw => ?_)
 obtain ⟨h1, h2, h3⟩ := hw.two.uc
 exact ⟨(), rfl, h1, h2, h3⟩

theorem c_vDrop (v : Vp) (hm : Hm) (am : Am) (n : aK) (hn : n.length ≤ 1000000000) : UC Try.prog 33 #[.pointer (some ⟨v.b, 0, none⟩), .string (ba n)] [Ch.row v.b (vpC v) 113] (vmC v hm am) (α := Unit) (fun o => .int .i64 (cb hm am n).1) (fun o => vmC v (cb hm am n).2.1 (cb hm am n).2.2) := by
 refine dh (args := [.pointer (some ⟨v.b, 0, none⟩), .string (ba n)]) 31 Try.func33 rfl rfl rfl (fun w0 => ?_)
 refine d2 (fun w h => h.untwo) ?_
 refine ak ?_
 refine aa ?_
 refine ap (ai rfl) rfl rfl ?_
 refine ae ?_
 refine aj ?_
 refine ak ?_
 refine aR ?_
 refine ak ?_
 refine aa ?_
 refine ap (ao rfl) rfl rfl ?_
 refine ap (cL Try.underlying57 rfl rfl) rfl rfl ?_
 refine bD (t := 10) (.bool false) rfl (congrArg Value.bool rfl) ?_
 refine ap (ai rfl) rfl rfl ?_
 refine ae ?_
 refine aj ?_
 refine ay rfl ?_
 refine ak ?_
 refine aa ?_
 refine ap (ao rfl) rfl rfl ?_
 refine aO rfl ent_62 (c_vhost _) rfl ?_
 refine bg (t := 13) rfl (fun h3_1 => ?_) (fun h3_1 => ?_)
 refine ap (bJ rfl) rfl rfl ?_
 refine ap (ai rfl) rfl rfl ?_
 refine ae ?_
 refine aj ?_
 refine ay rfl ?_
 refine aM ?_
 refine bz ?_
 refine aj ?_
 refine ak ?_
 refine aa ?_
 refine ap (ao rfl) rfl rfl ?_
 refine aO rfl ent_63 (dx _ (by omega)) rfl ?_
 refine ap (ai rfl) rfl rfl ?_
 refine ae ?_
 refine aj ?_
 refine ak ?_
 refine ak ?_
 refine aa ?_
 refine ap (ao rfl) rfl rfl ?_
 refine ap (aQ rfl) rfl rfl ?_
 refine ap (aB cH rfl) rfl rfl ?_
 refine ap (bc 0 d7 rfl rfl rfl) rfl rfl ?_
 refine ap (ao rfl) rfl rfl ?_
 refine ap (dG Try.underlying109 (cD Try.underlying37) bG rfl rfl (fun w hw => hw.own _ (List.mem_of_getElem? (i := 0) rfl))) rfl rfl ?_
 refine bD (t := 23) (.tuple #[.agg (hdC ((cM hm (a2 n)).getD hd0)).toArray, .bool (cM hm (a2 n)).isSome]) rfl look2_hd ?_
 refine ap (ao rfl) rfl rfl ?_
 refine ap (aA rfl rfl) rfl rfl ?_
 refine ap (aA rfl rfl) rfl rfl ?_
 refine bg (t := 25) rfl (fun h6_8 => ?_) (fun h6_8 => ?_)
 refine a0 bG rfl rfl (fun b1 => ?_)
 refine aE bG rfl rfl rfl .z rfl rfl rfl rfl ?_
 refine ap (ai rfl) rfl rfl ?_
 refine ae ?_
 refine aj ?_
 refine ak ?_
 refine aa ?_
 refine ap (ao rfl) rfl rfl ?_
 refine ap (bJ rfl) rfl rfl ?_
 refine ae ?_
 refine aj ?_
 refine ay rfl ?_
 refine aM ?_
 refine aj ?_
 refine ak ?_
 refine aa ?_
 refine ap (ao rfl) rfl rfl ?_
 refine ap (ao rfl) rfl rfl ?_
 refine dF (fun w h => h.f2.f2.two) ?_
 refine bY rfl ent_66 rfl (c_vdrop v hm am (a2 n)) (fun o => .z) (List.mem_of_getElem? (i := 0) rfl) (fun s hs => (List.mem_singleton.1 hs) ▸ .head _) (fun o1 => ?_)
 refine dF (fun w h => h.untwo) ?_
 refine ae ?_
 refine aj ?_
 refine ak ?_
 refine aa ?_
 refine ap (ai rfl) rfl rfl ?_
 refine ae ?_
 refine aj ?_
 refine aC ?_
 refine aI (ts := [4]) rfl rfl rfl (fun w hw => ?_)
 obtain ⟨h1, h2, h3⟩ := (hw.weak (.cons_cons _ (.cons_cons _ (.cons _ .slnil))) (fun s hs => hs)).f1.f1.two.uc
 focus first
   | (have hE : cb hm am n = (2, hm, am) := if_pos h3_1
      rw [hE]
      exact ⟨(), rfl, h1, h2, h3⟩)
   | (have hE : cb hm am n = (5, hm, am) := by rw [cb, if_neg (by rw [h3_1]; decide), if_pos h6_8]
      rw [hE]
      exact ⟨(), rfl, h1, h2, h3⟩)
   | (have hE : cb hm am n = (0, dropK hm am (a2 n)) := by rw [cb, if_neg (by rw [h3_1]; decide), if_neg (by rw [h6_8]; decide)]
      rw [hE]
      exact ⟨(), rfl, h1, h2, h3⟩)
   | (trace_state; fail)
 refine a0 bG rfl rfl (fun b3 => ?_)
 refine aE bG rfl rfl rfl .z rfl rfl rfl rfl ?_
 refine ap (ai rfl) rfl rfl ?_
 refine ae ?_
 refine aj ?_
 refine ak ?_
 refine aa ?_
 refine ap (ao rfl) rfl rfl ?_
 refine ap (bJ rfl) rfl rfl ?_
 refine ae ?_
 refine aj ?_
 refine ax rfl ?_
 refine ak ?_
 refine aa ?_
 refine ap (ai rfl) rfl rfl ?_
 refine ae ?_
 refine aj ?_
 refine aC ?_
 refine aw ?_
 refine aI (ts := [4]) rfl rfl rfl (fun w hw => ?_)
 obtain ⟨h1, h2, h3⟩ := (hw.weak (.cons _ (.cons_cons _ (.cons_cons _ .slnil))) (fun s hs => hs)).f1.f1.two.uc
 focus first
   | (have hE : cb hm am n = (2, hm, am) := if_pos h3_1
      rw [hE]
      exact ⟨(), rfl, h1, h2, h3⟩)
   | (have hE : cb hm am n = (5, hm, am) := by rw [cb, if_neg (by rw [h3_1]; decide), if_pos h6_8]
      rw [hE]
      exact ⟨(), rfl, h1, h2, h3⟩)
   | (have hE : cb hm am n = (0, dropK hm am (a2 n)) := by rw [cb, if_neg (by rw [h3_1]; decide), if_neg (by rw [h6_8]; decide)]
      rw [hE]
      exact ⟨(), rfl, h1, h2, h3⟩)
   | (trace_state; fail)
 refine ap (bJ rfl) rfl rfl ?_
 refine ap (ai rfl) rfl rfl ?_
 refine ae ?_
 refine aj ?_
 refine ax rfl ?_
 refine ak ?_
 refine aa ?_
 refine ap (ai rfl) rfl rfl ?_
 refine ae ?_
 refine aj ?_
 refine aC ?_
 refine aS ?_
 refine aw ?_
 refine aI (ts := [4]) rfl rfl rfl (fun w hw => ?_)
 obtain ⟨h1, h2, h3⟩ := (hw.weak (.cons_cons _ (.cons_cons _ .slnil)) (fun s hs => hs)).f1.f1.two.uc
 focus first
   | (have hE : cb hm am n = (2, hm, am) := if_pos h3_1
      rw [hE]
      exact ⟨(), rfl, h1, h2, h3⟩)
   | (have hE : cb hm am n = (5, hm, am) := by rw [cb, if_neg (by rw [h3_1]; decide), if_pos h6_8]
      rw [hE]
      exact ⟨(), rfl, h1, h2, h3⟩)
   | (have hE : cb hm am n = (0, dropK hm am (a2 n)) := by rw [cb, if_neg (by rw [h3_1]; decide), if_neg (by rw [h6_8]; decide)]
      rw [hE]
      exact ⟨(), rfl, h1, h2, h3⟩)
   | (trace_state; fail)

theorem probe_rng {n : aK} {slots : Nat} {e : Int} (h : e ∈ bZ n slots) : 0 ≤ e ∧ e < slots := by
  obtain ⟨k, hk, rfl⟩ := List.mem_iff_getElem.1 h
  rw [br] at hk
  have h1 := cP n slots k hk
  rw [List.getD_eq_getElem?_getD, List.getElem?_eq_getElem (by rw [br]; exact hk)] at h1
  have h2 := atH_rng (n := n) (slots := slots) (by omega) k
  have h3 : (bZ n slots)[k]'(by rw [br]; exact hk) = atH n slots k := h1
  rw [h3]; exact h2
theorem atR_lo (r : Rg) (i : Int) : 0 ≤ (atR r i).1.lo := by
  unfold atR
  split
  · exact ad0_lo
  · exact addA_lo _ _

set_option maxRecDepth 100000 in
set_option maxHeartbeats 4000000 in
theorem c_vGive (v : Vp) (hm : Hm) (am : Am) (n : aK) (hv : VOk v) (hn : n.length ≤ 1000000000) (hml : hm.length ≤ 1000000) : UC Try.prog 31 #[.pointer (some ⟨v.b, 0, none⟩), .string (ba n)] [Ch.row v.b (vpC v) 113, Ch.rd v.A 4 dC v.res] (vmC v hm am) (α := Unit) (fun o => .tuple #[.agg (c5 (bv v hm am n).1.1).toArray, .int .i64 (bv v hm am n).1.2]) (fun o => vmC v (bv v hm am n).2.1 (bv v hm am n).2.2) := by
 refine uc_of_WM (args := [.pointer (some ⟨v.b, 0, none⟩), .string (ba n)]) 81 Try.func31 rfl rfl rfl (fun w0 => ?_)
 refine d2 (fun w h => h.untwo) ?_
 refine ak ?_
 refine aa ?_
 refine bj rfl rfl rfl (fun b1 => ?_)
 refine bj rfl rfl rfl (fun b2 => ?_)
 refine a0 aD rfl rfl (fun b3 => ?_)
 refine a0 bI rfl rfl (fun b4 => ?_)
 refine ae ?_
 refine aj ?_
 refine ak ?_
 refine aR ?_
 refine ak ?_
 refine aa ?_
 refine ap (aF 3 cE rfl rfl rfl) rfl rfl ?_
 refine ap (cL Try.underlying57 rfl rfl) rfl rfl ?_
 refine bD (t := 14) (.bool false) rfl (congrArg Value.bool rfl) ?_
 refine ap (ai rfl) rfl rfl ?_
 refine ae ?_
 refine aj ?_
 refine ay rfl ?_
 refine ak ?_
 refine aa ?_
 refine ap (aF 2 ce rfl rfl rfl) rfl rfl ?_
 refine aO rfl ent_62 (c_vhost _) rfl ?_
 refine bg (t := 18) rfl (fun h3_1 => ?_) (fun h3_1 => ?_)
 refine ap (bJ rfl) rfl rfl ?_
 refine ap (ai rfl) rfl rfl ?_
 refine ae ?_
 refine aj ?_
 refine ay rfl ?_
 refine aM ?_
 refine bz ?_
 refine aj ?_
 refine ak ?_
 refine aa ?_
 refine ap (aF 2 ce rfl rfl rfl) rfl rfl ?_
 refine aO rfl ent_63 (dx _ (by omega)) rfl ?_
 refine a0 ce rfl rfl (fun b5 => ?_)
 refine aE ce rfl rfl rfl .z rfl rfl rfl rfl ?_
 refine ae ?_
 refine aj ?_
 refine ak ?_
 refine ak ?_
 refine w_drawV 12 cq ?_
 refine aP (i := 0) rfl ab (aF 4 cE rfl rfl rfl) av av rfl (ah (ah aq)) (by kernel_rfl) rfl ?_
 refine aP (i := 1) rfl ab (aQ rfl) av av rfl (ah (ah aq)) (by kernel_rfl) rfl ?_
 refine aP (i := 2) rfl ab (aB cH rfl) av av rfl (ah (ah aq)) (by kernel_rfl) rfl ?_
 refine aP (i := 3) rfl ab (bc 0 d7 rfl rfl rfl) av av rfl (ah (ah aq)) (by kernel_rfl) rfl ?_
 refine aP (i := 4) rfl ab (aF 0 ce rfl rfl rfl) av av rfl (ah (ah aq)) (by kernel_rfl) rfl ?_
 refine v_many (js := [5, 9]) (by kernel_rfl) rfl ?_
 refine wrv_cons (i := 5) rfl rfl ?_ ?_
 refine ap (dG Try.underlying109 (cD Try.underlying37) bG rfl rfl (fun w hw => hw.own _ (List.mem_of_getElem? (i := 5) rfl))) rfl rfl ?_
 refine ae ?_
 refine bu av ?_
 refine wv_as (t := 29) (.tuple #[.agg (hdC ((cM hm (a2 n)).getD hd0)).toArray, .bool (cM hm (a2 n)).isSome]) rfl look2_hd ?_
 refine aP (i := 6) rfl ab (ao rfl) av av rfl (ah (ah aq)) (by kernel_rfl) rfl ?_
 refine aP (i := 7) rfl ab (aA rfl rfl) av av rfl (ah (ah aq)) (by kernel_rfl) rfl ?_
 refine aP (i := 8) rfl ab (aA rfl rfl) av av rfl (ah (ah aq)) (by kernel_rfl) rfl ?_
 refine wv_splitb (t := 31) rfl (fun h6_8 => ?_) (fun h6_8 => ?_)
 refine cf (i := 9) rfl (by kernel_rfl) rfl ?_
 refine a0 bG rfl rfl (fun b6 => ?_)
 refine ae ?_
 refine bu (bM 1) ?_
 refine cf (i := 10) rfl (by kernel_rfl) rfl ?_
 refine aE bG rfl rfl rfl .z rfl rfl rfl rfl ?_
 refine ae ?_
 refine bu (bM 1) ?_
 refine aP (i := 11) rfl ab (ai rfl) (bM 1) av rfl (ah (ah aq)) (by kernel_rfl) rfl ?_
 refine du (by kernel_rfl) ?_
 refine aj ?_
 refine ak ?_
 refine aa ?_
 refine ap (ao rfl) rfl rfl ?_
 refine ae ?_
 refine aj ?_
 refine ax rfl ?_
 refine ak ?_
 refine aa ?_
 refine ap (aB fa_121_1 rfl) rfl rfl ?_
 refine ap (aJ 0 aD rfl rfl rfl rfl) rfl rfl ?_
 refine aE aD rfl rfl rfl (.s (.s (.s (.z)))) rfl rfl rfl rfl ?_
 refine aE bI rfl rfl rfl (.s (.s (.z))) rfl rfl rfl rfl ?_
 refine ae ?_
 refine aj ?_
 refine aC ?_
 refine aw ?_
 refine dk ?_
 refine cu (rs := [.cell 4 62, .cell 5 31]) rfl (aZ 3 aD rfl rfl rfl rfl (cp 2 bI rfl rfl rfl bi)) (fun w hw => ?_)
 obtain ⟨h1, h2, h3⟩ := (hw.weak (.cons _ (.cons _ (.cons _ (.cons _ (.cons _ (.cons _ (.cons_cons _ (.cons_cons _ .slnil)))))))) (fun s hs => hs)).f1.f1.two.uc
 focus first
   | (have hE := bX (v := v) (hm := hm) (am := am) h3_1
      rw [hE]
      exact ⟨(), rfl, h1, h2, h3⟩)
   | (have hE := bW (v := v) (am := am) h3_1 h6_8
      rw [hE]
      exact ⟨(), rfl, h1, h2, h3⟩)
   | (have hE := bH (am := am) h3_1 h6_8 h9_2
      rw [hE]
      exact ⟨(), rfl, h1, h2, h3⟩)
   | (have hE := bp (am := am) h3_1 h6_8 h9_2 (show a7 v am n = none from hpf)
      rw [hE]
      exact ⟨(), rfl, h1, h2, h3⟩)
   | (have hq : a7 v am n = g := by
        rw [a7, hxs, List.find?_append, ← hq9]
        cases g with
        | none => cases hqs
        | some y => rfl
      have hE := bp (am := am) h3_1 h6_8 h9_2 hq
      rw [hqs, if_pos rfl] at hE
      rw [hE]
      exact ⟨(), rfl, h1, h2, h3⟩)
   | (trace_state; fail)
 refine cf (i := 9) rfl (by kernel_rfl) rfl ?_
 refine a0 bG rfl rfl (fun b7 => ?_)
 refine ae ?_
 refine bu (bM 1) ?_
 refine cf (i := 10) rfl (by kernel_rfl) rfl ?_
 refine aE bG rfl rfl rfl .z rfl rfl rfl rfl ?_
 refine ae ?_
 refine bu (bM 1) ?_
 refine aP (i := 11) rfl ab (ai rfl) (bM 1) av rfl (ah (ah aq)) (by kernel_rfl) rfl ?_
 refine du (by kernel_rfl) ?_
 refine aj ?_
 refine ak ?_
 refine aa ?_
 refine ap (ao rfl) rfl rfl ?_
 refine ae ?_
 refine aj ?_
 refine ay rfl ?_
 refine aM ?_
 refine aj ?_
 refine ak ?_
 refine ak ?_
 refine aa ?_
 refine ap (aF 5 cE rfl rfl rfl) rfl rfl ?_
 refine bk rfl ent_35 rfl (c_vFree v hm hv hml) (fun w hw => (aX (dv 0 rfl hw) (aX (rd_L 6 rfl hw) a8))) ?_
 refine ap (ct rfl rfl) rfl rfl ?_
 refine aH (t := 37) rfl (fun h9_2 => ?_) (fun h9_2 => ?_)
 refine ae ?_
 refine aj ?_
 refine ax rfl ?_
 refine ak ?_
 refine aa ?_
 refine ap (a5 rfl (cS)) rfl rfl ?_
 refine aE aD rfl rfl rfl (.s (.s (.s (.z)))) rfl rfl rfl rfl ?_
 refine aE bI rfl rfl rfl (.s (.s (.z))) rfl rfl rfl rfl ?_
 refine ae ?_
 refine aj ?_
 refine aC ?_
 refine aw ?_
 refine dk ?_
 refine cu (rs := [.cell 4 62, .cell 5 31]) rfl (aZ 3 aD rfl rfl rfl rfl (cp 2 bI rfl rfl rfl bi)) (fun w hw => ?_)
 obtain ⟨h1, h2, h3⟩ := (hw.weak (.cons _ (.cons _ (.cons _ (.cons _ (.cons _ (.cons _ (.cons_cons _ (.cons_cons _ .slnil)))))))) (fun s hs => hs)).f1.f1.two.uc
 focus first
   | (have hE := bX (v := v) (hm := hm) (am := am) h3_1
      rw [hE]
      exact ⟨(), rfl, h1, h2, h3⟩)
   | (have hE := bW (v := v) (am := am) h3_1 h6_8
      rw [hE]
      exact ⟨(), rfl, h1, h2, h3⟩)
   | (have hE := bH (am := am) h3_1 h6_8 h9_2
      rw [hE]
      exact ⟨(), rfl, h1, h2, h3⟩)
   | (have hE := bp (am := am) h3_1 h6_8 h9_2 (show a7 v am n = none from hpf)
      rw [hE]
      exact ⟨(), rfl, h1, h2, h3⟩)
   | (have hq : a7 v am n = g := by
        rw [a7, hxs, List.find?_append, ← hq9]
        cases g with
        | none => cases hqs
        | some y => rfl
      have hE := bp (am := am) h3_1 h6_8 h9_2 hq
      rw [hqs, if_pos rfl] at hE
      rw [hE]
      exact ⟨(), rfl, h1, h2, h3⟩)
   | (trace_state; fail)
 refine ae ?_
 refine aj ?_
 refine ay rfl ?_
 refine aM ?_
 refine aj ?_
 refine ak ?_
 refine ak ?_
 have hsl := eh v.rg
 refine w_drawV 8 cq ?_
 refine aP (i := 0) rfl ab (aF 4 ce rfl rfl rfl) av av rfl (ah (ah aq)) (by kernel_rfl) rfl ?_
 refine aP (i := 1) rfl ab (aF 5 cE rfl rfl rfl) av av rfl (ah (ah aq)) (by kernel_rfl) rfl ?_
 refine aP (i := 2) rfl ab (aQ rfl) av av rfl (ah (ah aq)) (by kernel_rfl) rfl ?_
 refine aP (i := 3) rfl ab (aB dz rfl) av av rfl (ah (ah aq)) (by kernel_rfl) rfl ?_
 refine aP (i := 4) rfl ab (aB dO rfl) av av rfl (ah (ah aq)) (by kernel_rfl) rfl ?_
 refine aP (i := 5) rfl ab (bS 0 bA rfl rfl rfl rfl) av av rfl (ah (ah aq)) (by kernel_rfl) rfl ?_
 refine cf (i := 6) rfl (by kernel_rfl) rfl ?_
 refine aO rfl ent_68 (c_rSize v.rg hv.rg.lo.1) rfl ?_
 refine ae ?_
 refine bu av ?_
 refine cf (i := 7) rfl (by kernel_rfl) rfl ?_
 refine o_callr2 rfl ent_67 rfl (er n (bF v.rg)) (fun w hw => a8) (fun ⟨p7, q7⟩ => ?_)
 refine ae ?_
 refine bu (bM 2) ?_
 refine wv_heap (fun w h => h.freeze.freeze) ?_
 refine du (by kernel_rfl) ?_
 refine aj ?_
 refine aR ?_
 refine d2 (fun w h => h.weak (.cons _ (.cons_cons _ (.cons_cons _ (.cons_cons _ (.cons_cons _ (.cons_cons _ (.cons_cons _ (.cons_cons _ .slnil)))))))) (fun s hs => hs)) ?_
 refine w_range (σ := Option Int) (fun pre g => g = none ∧ pre.find? (fun i => dl v.res am (atR v.rg i).1) = none) (fun c pre g => c = .ret ∧ g = pre.find? (fun i => dl v.res am (atR v.rg i).1) ∧ g.isSome = true) (fun g => [Ch.row b5 [.string (ba (a2 n))] 37, Ch.row b4 [.int .i64 0] 31, Ch.row b3 (c5 (adO v g)) 62, Ch.row b2 [.string (ba n)] 37, Ch.row b1 [.pointer (some ⟨v.b, 0, none⟩)] 57, Ch.mp v.rh bT cr (hmO v hm n g), Ch.mp v.ra em bT (amO v am n g)]) (none) rfl rfl ent_107 (dU n (bF v.rg) p7 q7 hn (by omega) (by omega)) (List.forall_mem_cons.2 ⟨.head _, List.forall_mem_cons.2 ⟨.tail _ (.head _), nofun⟩⟩) rfl (fun _ => rfl) (⟨rfl, rfl⟩) rfl (fun pre e post g hxs hI lr D r hr okb wb => ?_) (fun g D0 hI => ?_) (fun c pre post g D0 hxs hI => ?_)
 obtain ⟨rfl, hpf⟩ := hI
 have her := probe_rng (n := n) (slots := bF v.rg) (e := e) (by rw [hxs]; simp)
 refine aa ?_
 refine ap (ai rfl) rfl rfl ?_
 refine ae ?_
 refine e_begin rfl hr .z ?_
 refine aR ?_
 refine ak ?_
 refine aa ?_
 refine ap (aF 6 cE rfl rfl rfl) rfl rfl ?_
 refine ap (aQ rfl) rfl rfl ?_
 refine ap (aB dz rfl) rfl rfl ?_
 refine ap (aB dO rfl) rfl rfl ?_
 refine ap (bS 2 bA rfl rfl rfl rfl) rfl rfl ?_
 refine ap (ao rfl) rfl rfl ?_
 refine bk rfl ent_69 rfl (c_rAt v.rg e hv.rg (by omega)) (fun w hw => a8) ?_
 refine ap (ao rfl) rfl rfl ?_
 refine ap (aA rfl rfl) rfl rfl ?_
 refine ap (aA rfl rfl) rfl rfl ?_
 refine a0 aD rfl rfl (fun b9 => ?_)
 refine aE aD rfl rfl rfl .z rfl rfl rfl rfl ?_
 refine ap (ai rfl) rfl rfl ?_
 refine ae ?_
 refine aj ?_
 refine ak ?_
 refine aa ?_
 refine ap (aF 7 cE rfl rfl rfl) rfl rfl ?_
 refine ap (aJ 0 aD rfl rfl rfl rfl) rfl rfl ?_
 refine bk rfl ent_70 rfl (c_vfree v am (atR v.rg e).1 hv (atR_lo _ _)) (fun w hw => (aX (dv 2 rfl hw) (aX (dv 3 rfl hw) (aX (rd_L 9 rfl hw) a8)))) ?_
 refine bg (t := 60) rfl (fun h14_2 => ?_) (fun h14_2 => ?_)
 refine ae ?_
 refine aj ?_
 refine ax rfl ?_
 refine ak ?_
 refine w_drawVA 20 cq (fun w h => ((h.anymp (.s (.s (.s (.s (.s (.s (.s (.s (.z)))))))))).anymp (.s (.s (.s (.s (.s (.s (.s (.s (.s (.z)))))))))))) ?_
 refine aP (i := 0) rfl ab (aF 7 cE rfl rfl rfl) (fun w h => ((h.anymp (.s (.s (.s (.s (.s (.s (.s (.s (.z)))))))))).anymp (.s (.s (.s (.s (.s (.s (.s (.s (.s (.z)))))))))))) av rfl (ah (a6 bl)) (by kernel_rfl) rfl ?_
 refine aP (i := 1) rfl ab (aQ rfl) (fun w h => ((h.anymp (.s (.s (.s (.s (.s (.s (.s (.s (.z)))))))))).anymp (.s (.s (.s (.s (.s (.s (.s (.s (.s (.z)))))))))))) av rfl (ah (a6 bl)) (by kernel_rfl) rfl ?_
 refine aP (i := 2) rfl ab (aB cH rfl) (fun w h => ((h.anymp (.s (.s (.s (.s (.s (.s (.s (.s (.z)))))))))).anymp (.s (.s (.s (.s (.s (.s (.s (.s (.s (.z)))))))))))) av rfl (ah (a6 bl)) (by kernel_rfl) rfl ?_
 refine aP (i := 3) rfl ab (bc 2 d7 rfl rfl rfl) (fun w h => ((h.anymp (.s (.s (.s (.s (.s (.s (.s (.s (.z)))))))))).anymp (.s (.s (.s (.s (.s (.s (.s (.s (.s (.z)))))))))))) av rfl (ah (a6 bl)) (by kernel_rfl) rfl ?_
 refine aP (i := 4) rfl ab (aF 3 ce rfl rfl rfl) (fun w h => ((h.anymp (.s (.s (.s (.s (.s (.s (.s (.s (.z)))))))))).anymp (.s (.s (.s (.s (.s (.s (.s (.s (.s (.z)))))))))))) av rfl (ah (a6 bl)) (by kernel_rfl) rfl ?_
 refine aP (i := 5) rfl ab (aF 7 cE rfl rfl rfl) (fun w h => ((h.anymp (.s (.s (.s (.s (.s (.s (.s (.s (.z)))))))))).anymp (.s (.s (.s (.s (.s (.s (.s (.s (.s (.z)))))))))))) av rfl (ah (a6 bl)) (by kernel_rfl) rfl ?_
 refine aP (i := 6) rfl ab (aQ rfl) (fun w h => ((h.anymp (.s (.s (.s (.s (.s (.s (.s (.s (.z)))))))))).anymp (.s (.s (.s (.s (.s (.s (.s (.s (.s (.z)))))))))))) av rfl (ah (a6 bl)) (by kernel_rfl) rfl ?_
 refine aP (i := 7) rfl ab (aB eu rfl) (fun w h => ((h.anymp (.s (.s (.s (.s (.s (.s (.s (.s (.z)))))))))).anymp (.s (.s (.s (.s (.s (.s (.s (.s (.s (.z)))))))))))) av rfl (ah (a6 bl)) (by kernel_rfl) rfl ?_
 refine aP (i := 8) rfl ab (bc 2 ty_110 rfl rfl rfl) (fun w h => ((h.anymp (.s (.s (.s (.s (.s (.s (.s (.s (.z)))))))))).anymp (.s (.s (.s (.s (.s (.s (.s (.s (.s (.z)))))))))))) av rfl (ah (a6 bl)) (by kernel_rfl) rfl ?_
 refine aP (i := 9) rfl ab (aJ 0 aD rfl rfl rfl rfl) (fun w h => ((h.anymp (.s (.s (.s (.s (.s (.s (.s (.s (.z)))))))))).anymp (.s (.s (.s (.s (.s (.s (.s (.s (.s (.z)))))))))))) av rfl (ah (a6 bl)) (by kernel_rfl) rfl ?_
 refine aP (i := 10) rfl ab (aF 6 ce rfl rfl rfl) (fun w h => ((h.anymp (.s (.s (.s (.s (.s (.s (.s (.s (.z)))))))))).anymp (.s (.s (.s (.s (.s (.s (.s (.s (.s (.z)))))))))))) av rfl (ah (a6 bl)) (by kernel_rfl) rfl ?_
 refine aP (i := 11) rfl ab (aJ 0 aD rfl rfl rfl rfl) (fun w h => ((h.anymp (.s (.s (.s (.s (.s (.s (.s (.s (.z)))))))))).anymp (.s (.s (.s (.s (.s (.s (.s (.s (.s (.z)))))))))))) av rfl (ah (a6 bl)) (by kernel_rfl) rfl ?_
 refine aP (i := 12) rfl ab (a5 rfl (bu_121_0_1 _ _ _ _)) (fun w h => ((h.anymp (.s (.s (.s (.s (.s (.s (.s (.s (.z)))))))))).anymp (.s (.s (.s (.s (.s (.s (.s (.s (.s (.z)))))))))))) av rfl (ah (a6 bl)) (by kernel_rfl) rfl ?_
 refine aP (i := 13) rfl ab (aF 3 ce rfl rfl rfl) (fun w h => ((h.anymp (.s (.s (.s (.s (.s (.s (.s (.s (.z)))))))))).anymp (.s (.s (.s (.s (.s (.s (.s (.s (.s (.z)))))))))))) av rfl (ah (a6 bl)) (by kernel_rfl) rfl ?_
 refine cf (i := 14) rfl (by kernel_rfl) rfl ?_
 refine ep (encK := bT) (encV := cr) Try.underlying109 (cD Try.underlying37) bG rfl rfl (d8 h6_8) (fun st => (.s (.s (.s (.s (.s (.s (.s (.s (.z)))))))))) rfl (fun st9 => ?_)
 refine ae ?_
 refine bu (fun w h => ((h.anymq (v0 := hd0) rfl (.s (.s (.s (.s (.s (.s (.s (.s (.z)))))))))).anymp (.s (.s (.s (.s (.s (.s (.s (.s (.s (.z)))))))))))) ?_
 refine aP (i := 15) rfl ab (aA rfl rfl) (fun w h => ((h.anymq (v0 := hd0) rfl (.s (.s (.s (.s (.s (.s (.s (.s (.z)))))))))).anymp (.s (.s (.s (.s (.s (.s (.s (.s (.s (.z)))))))))))) av rfl (ah (a6 bl)) (by kernel_rfl) rfl ?_
 refine cf (i := 16) rfl (by kernel_rfl) rfl ?_
 refine o_entSt (encK := bT) (encV := cr) (v := (⟨n, (atR v.rg e).1⟩ : Hd)) rfl rfl rfl (.s (.s (.s (.s (.s (.s (.s (.s (.z))))))))) ?_
 refine ae ?_
 refine bu (fun w h => ((h.anymp (.s (.s (.s (.s (.s (.s (.s (.s (.z)))))))))).anymp (.s (.s (.s (.s (.s (.s (.s (.s (.s (.z)))))))))))) ?_
 refine cf (i := 17) rfl (by kernel_rfl) rfl ?_
 refine ep (encK := em) (encV := bT) Try.underlying110 keyl_ad ce rfl rfl (freeV_free h14_2) (fun st => (.s (.s (.s (.s (.s (.s (.s (.s (.s (.z))))))))))) rfl (fun st10 => ?_)
 refine ae ?_
 refine bu (fun w h => ((h.anymp (.s (.s (.s (.s (.s (.s (.s (.s (.z)))))))))).anymq (v0 := ([] : aK)) rfl (.s (.s (.s (.s (.s (.s (.s (.s (.s (.z)))))))))))) ?_
 refine aP (i := 18) rfl ab (aA rfl rfl) (fun w h => ((h.anymp (.s (.s (.s (.s (.s (.s (.s (.s (.z)))))))))).anymq (v0 := ([] : aK)) rfl (.s (.s (.s (.s (.s (.s (.s (.s (.s (.z)))))))))))) av rfl (ah (a6 bl)) (by kernel_rfl) rfl ?_
 refine cf (i := 19) rfl (by kernel_rfl) rfl ?_
 refine o_entSt (encK := em) (encV := bT) (v := (a2 n)) rfl rfl rfl (.s (.s (.s (.s (.s (.s (.s (.s (.s (.z)))))))))) ?_
 refine ae ?_
 refine bu (fun w h => ((h.anymp (.s (.s (.s (.s (.s (.s (.s (.s (.z)))))))))).anymp (.s (.s (.s (.s (.s (.s (.s (.s (.s (.z)))))))))))) ?_
 refine du (by kernel_rfl) ?_
 refine aj ?_
 refine ak ?_
 refine aa ?_
 refine ap (aJ 0 aD rfl rfl rfl rfl) rfl rfl ?_
 refine aE aD rfl rfl rfl (.s (.s (.s (.s (.s (.z)))))) rfl rfl rfl rfl ?_
 refine aE bI rfl rfl rfl (.s (.s (.s (.s (.z))))) rfl rfl rfl rfl ?_
 refine ae ?_
 refine aj ?_
 refine aC ?_
 refine aS ?_
 refine e_rret ((some e)) ?_ (bM 1)
 exact ⟨rfl, by rw [List.find?_append, hpf, List.find?_cons_of_pos (p := (fun i => dl v.res am (atR v.rg i).1)) h14_2]; rfl, rfl⟩
 refine ae ?_
 refine aj ?_
 refine ay rfl ?_
 refine aM ?_
 refine bz ?_
 refine e_rend (none) ?_ (bM 1)
 exact ⟨rfl, by rw [List.find?_append, hpf, List.find?_cons_of_neg (by rw [h14_2]; decide)]; rfl⟩
 obtain ⟨rfl, hpf⟩ := hI
 refine bz ?_
 refine aj ?_
 refine ak ?_
 refine aa ?_
 refine ap (a5 rfl (cS)) rfl rfl ?_
 refine aE aD rfl rfl rfl (.s (.s (.s (.z)))) rfl rfl rfl rfl ?_
 refine aE bI rfl rfl rfl (.s (.s (.z))) rfl rfl rfl rfl ?_
 refine ae ?_
 refine aj ?_
 refine aC ?_
 refine dk ?_
 refine dE .z ?_
 refine cu (rs := [.cell 4 62, .cell 5 31]) rfl (aZ 3 aD rfl rfl rfl rfl (cp 2 bI rfl rfl rfl bi)) (fun w hw => ?_)
 obtain ⟨h1, h2, h3⟩ := (hw.weak (.cons _ (.cons _ (.cons _ (.cons _ (.cons _ (.cons _ (.cons_cons _ (.cons_cons _ .slnil)))))))) (fun s hs => hs)).f1.f1.two.uc
 focus first
   | (have hE := bX (v := v) (hm := hm) (am := am) h3_1
      rw [hE]
      exact ⟨(), rfl, h1, h2, h3⟩)
   | (have hE := bW (v := v) (am := am) h3_1 h6_8
      rw [hE]
      exact ⟨(), rfl, h1, h2, h3⟩)
   | (have hE := bH (am := am) h3_1 h6_8 h9_2
      rw [hE]
      exact ⟨(), rfl, h1, h2, h3⟩)
   | (have hE := bp (am := am) h3_1 h6_8 h9_2 (show a7 v am n = none from hpf)
      rw [hE]
      exact ⟨(), rfl, h1, h2, h3⟩)
   | (have hq : a7 v am n = g := by
        rw [a7, hxs, List.find?_append, ← hq9]
        cases g with
        | none => cases hqs
        | some y => rfl
      have hE := bp (am := am) h3_1 h6_8 h9_2 hq
      rw [hqs, if_pos rfl] at hE
      rw [hE]
      exact ⟨(), rfl, h1, h2, h3⟩)
   | (trace_state; fail)
 obtain ⟨rfl, hq9, hqs⟩ := hI
 refine aC ?_
 refine aS ?_
 refine aw ?_
 refine dk ?_
 refine dE .z ?_
 refine cu (rs := [.cell 4 62, .cell 5 31]) rfl (aZ 3 aD rfl rfl rfl rfl (cp 2 bI rfl rfl rfl bi)) (fun w hw => ?_)
 obtain ⟨h1, h2, h3⟩ := (hw.weak (.cons _ (.cons _ (.cons _ (.cons _ (.cons _ (.cons _ (.cons_cons _ (.cons_cons _ .slnil)))))))) (fun s hs => hs)).f1.f1.two.uc
 focus first
   | (have hE := bX (v := v) (hm := hm) (am := am) h3_1
      rw [hE]
      exact ⟨(), rfl, h1, h2, h3⟩)
   | (have hE := bW (v := v) (am := am) h3_1 h6_8
      rw [hE]
      exact ⟨(), rfl, h1, h2, h3⟩)
   | (have hE := bH (am := am) h3_1 h6_8 h9_2
      rw [hE]
      exact ⟨(), rfl, h1, h2, h3⟩)
   | (have hE := bp (am := am) h3_1 h6_8 h9_2 (show a7 v am n = none from hpf)
      rw [hE]
      exact ⟨(), rfl, h1, h2, h3⟩)
   | (have hq : a7 v am n = g := by
        rw [a7, hxs, List.find?_append, ← hq9]
        cases g with
        | none => cases hqs
        | some y => rfl
      have hE := bp (am := am) h3_1 h6_8 h9_2 hq
      rw [hqs, if_pos rfl] at hE
      rw [hE]
      exact ⟨(), rfl, h1, h2, h3⟩)
   | (trace_state; fail)
 refine wrv_cons (i := 9) rfl rfl ?_ ?_
 refine a0 bG rfl rfl (fun b12 => ?_)
 refine ae ?_
 refine bu (bM 1) ?_
 refine cf (i := 5) rfl (by kernel_rfl) rfl ?_
 refine ap (dG Try.underlying109 (cD Try.underlying37) bG rfl rfl (fun w hw => hw.own _ (List.mem_of_getElem? (i := 6) rfl))) rfl rfl ?_
 refine ae ?_
 refine bu (bM 1) ?_
 refine wv_as (t := 29) (.tuple #[.agg (hdC ((cM hm (a2 n)).getD hd0)).toArray, .bool (cM hm (a2 n)).isSome]) rfl look2_hd ?_
 refine aP (i := 6) rfl ab (ao rfl) (bM 1) av rfl (ah (ah aq)) (by kernel_rfl) rfl ?_
 refine aP (i := 7) rfl ab (aA rfl rfl) (bM 1) av rfl (ah (ah aq)) (by kernel_rfl) rfl ?_
 refine aP (i := 8) rfl ab (aA rfl rfl) (bM 1) av rfl (ah (ah aq)) (by kernel_rfl) rfl ?_
 refine wv_splitb (t := 31) rfl (fun h6_8 => ?_) (fun h6_8 => ?_)
 refine cf (i := 10) rfl (by kernel_rfl) rfl ?_
 refine aE bG rfl rfl rfl .z rfl rfl rfl rfl ?_
 refine ae ?_
 refine bu (bM 1) ?_
 refine aP (i := 11) rfl ab (ai rfl) (bM 1) av rfl (ah (ah aq)) (by kernel_rfl) rfl ?_
 refine du (by kernel_rfl) ?_
 refine aj ?_
 refine ak ?_
 refine aa ?_
 refine ap (ao rfl) rfl rfl ?_
 refine ae ?_
 refine aj ?_
 refine ax rfl ?_
 refine ak ?_
 refine aa ?_
 refine ap (aB fa_121_1 rfl) rfl rfl ?_
 refine ap (aJ 0 aD rfl rfl rfl rfl) rfl rfl ?_
 refine aE aD rfl rfl rfl (.s (.s (.s (.z)))) rfl rfl rfl rfl ?_
 refine aE bI rfl rfl rfl (.s (.s (.z))) rfl rfl rfl rfl ?_
 refine ae ?_
 refine aj ?_
 refine aC ?_
 refine aw ?_
 refine dk ?_
 refine cu (rs := [.cell 4 62, .cell 5 31]) rfl (aZ 3 aD rfl rfl rfl rfl (cp 2 bI rfl rfl rfl bi)) (fun w hw => ?_)
 obtain ⟨h1, h2, h3⟩ := (hw.weak (.cons _ (.cons _ (.cons _ (.cons _ (.cons _ (.cons _ (.cons_cons _ (.cons_cons _ .slnil)))))))) (fun s hs => hs)).f1.f1.two.uc
 focus first
   | (have hE := bX (v := v) (hm := hm) (am := am) h3_1
      rw [hE]
      exact ⟨(), rfl, h1, h2, h3⟩)
   | (have hE := bW (v := v) (am := am) h3_1 h6_8
      rw [hE]
      exact ⟨(), rfl, h1, h2, h3⟩)
   | (have hE := bH (am := am) h3_1 h6_8 h9_2
      rw [hE]
      exact ⟨(), rfl, h1, h2, h3⟩)
   | (have hE := bp (am := am) h3_1 h6_8 h9_2 (show a7 v am n = none from hpf)
      rw [hE]
      exact ⟨(), rfl, h1, h2, h3⟩)
   | (have hq : a7 v am n = g := by
        rw [a7, hxs, List.find?_append, ← hq9]
        cases g with
        | none => cases hqs
        | some y => rfl
      have hE := bp (am := am) h3_1 h6_8 h9_2 hq
      rw [hqs, if_pos rfl] at hE
      rw [hE]
      exact ⟨(), rfl, h1, h2, h3⟩)
   | (trace_state; fail)
 refine cf (i := 10) rfl (by kernel_rfl) rfl ?_
 refine aE bG rfl rfl rfl .z rfl rfl rfl rfl ?_
 refine ae ?_
 refine bu (bM 1) ?_
 refine aP (i := 11) rfl ab (ai rfl) (bM 1) av rfl (ah (ah aq)) (by kernel_rfl) rfl ?_
 refine du (by kernel_rfl) ?_
 refine aj ?_
 refine ak ?_
 refine aa ?_
 refine ap (ao rfl) rfl rfl ?_
 refine ae ?_
 refine aj ?_
 refine ay rfl ?_
 refine aM ?_
 refine aj ?_
 refine ak ?_
 refine ak ?_
 refine aa ?_
 refine ap (aF 5 cE rfl rfl rfl) rfl rfl ?_
 refine bk rfl ent_35 rfl (c_vFree v hm hv hml) (fun w hw => (aX (dv 0 rfl hw) (aX (rd_L 6 rfl hw) a8))) ?_
 refine ap (ct rfl rfl) rfl rfl ?_
 refine aH (t := 37) rfl (fun h9_2 => ?_) (fun h9_2 => ?_)
 refine ae ?_
 refine aj ?_
 refine ax rfl ?_
 refine ak ?_
 refine aa ?_
 refine ap (a5 rfl (cS)) rfl rfl ?_
 refine aE aD rfl rfl rfl (.s (.s (.s (.z)))) rfl rfl rfl rfl ?_
 refine aE bI rfl rfl rfl (.s (.s (.z))) rfl rfl rfl rfl ?_
 refine ae ?_
 refine aj ?_
 refine aC ?_
 refine aw ?_
 refine dk ?_
 refine cu (rs := [.cell 4 62, .cell 5 31]) rfl (aZ 3 aD rfl rfl rfl rfl (cp 2 bI rfl rfl rfl bi)) (fun w hw => ?_)
 obtain ⟨h1, h2, h3⟩ := (hw.weak (.cons _ (.cons _ (.cons _ (.cons _ (.cons _ (.cons _ (.cons_cons _ (.cons_cons _ .slnil)))))))) (fun s hs => hs)).f1.f1.two.uc
 focus first
   | (have hE := bX (v := v) (hm := hm) (am := am) h3_1
      rw [hE]
      exact ⟨(), rfl, h1, h2, h3⟩)
   | (have hE := bW (v := v) (am := am) h3_1 h6_8
      rw [hE]
      exact ⟨(), rfl, h1, h2, h3⟩)
   | (have hE := bH (am := am) h3_1 h6_8 h9_2
      rw [hE]
      exact ⟨(), rfl, h1, h2, h3⟩)
   | (have hE := bp (am := am) h3_1 h6_8 h9_2 (show a7 v am n = none from hpf)
      rw [hE]
      exact ⟨(), rfl, h1, h2, h3⟩)
   | (have hq : a7 v am n = g := by
        rw [a7, hxs, List.find?_append, ← hq9]
        cases g with
        | none => cases hqs
        | some y => rfl
      have hE := bp (am := am) h3_1 h6_8 h9_2 hq
      rw [hqs, if_pos rfl] at hE
      rw [hE]
      exact ⟨(), rfl, h1, h2, h3⟩)
   | (trace_state; fail)
 refine ae ?_
 refine aj ?_
 refine ay rfl ?_
 refine aM ?_
 refine aj ?_
 refine ak ?_
 refine ak ?_
 have hsl := eh v.rg
 refine w_drawV 8 cq ?_
 refine aP (i := 0) rfl ab (aF 4 ce rfl rfl rfl) av av rfl (ah (ah aq)) (by kernel_rfl) rfl ?_
 refine aP (i := 1) rfl ab (aF 5 cE rfl rfl rfl) av av rfl (ah (ah aq)) (by kernel_rfl) rfl ?_
 refine aP (i := 2) rfl ab (aQ rfl) av av rfl (ah (ah aq)) (by kernel_rfl) rfl ?_
 refine aP (i := 3) rfl ab (aB dz rfl) av av rfl (ah (ah aq)) (by kernel_rfl) rfl ?_
 refine aP (i := 4) rfl ab (aB dO rfl) av av rfl (ah (ah aq)) (by kernel_rfl) rfl ?_
 refine aP (i := 5) rfl ab (bS 0 bA rfl rfl rfl rfl) av av rfl (ah (ah aq)) (by kernel_rfl) rfl ?_
 refine cf (i := 6) rfl (by kernel_rfl) rfl ?_
 refine aO rfl ent_68 (c_rSize v.rg hv.rg.lo.1) rfl ?_
 refine ae ?_
 refine bu av ?_
 refine cf (i := 7) rfl (by kernel_rfl) rfl ?_
 refine o_callr2 rfl ent_67 rfl (er n (bF v.rg)) (fun w hw => a8) (fun ⟨p12, q12⟩ => ?_)
 refine ae ?_
 refine bu (bM 2) ?_
 refine wv_heap (fun w h => h.freeze.freeze) ?_
 refine du (by kernel_rfl) ?_
 refine aj ?_
 refine aR ?_
 refine d2 (fun w h => h.weak (.cons _ (.cons_cons _ (.cons_cons _ (.cons_cons _ (.cons_cons _ (.cons_cons _ (.cons_cons _ (.cons_cons _ .slnil)))))))) (fun s hs => hs)) ?_
 refine w_range (σ := Option Int) (fun pre g => g = none ∧ pre.find? (fun i => dl v.res am (atR v.rg i).1) = none) (fun c pre g => c = .ret ∧ g = pre.find? (fun i => dl v.res am (atR v.rg i).1) ∧ g.isSome = true) (fun g => [Ch.row b5 [.string (ba (a2 n))] 37, Ch.row b4 [.int .i64 0] 31, Ch.row b3 (c5 (adO v g)) 62, Ch.row b2 [.string (ba n)] 37, Ch.row b1 [.pointer (some ⟨v.b, 0, none⟩)] 57, Ch.mp v.rh bT cr (hmO v hm n g), Ch.mp v.ra em bT (amO v am n g)]) (none) rfl rfl ent_107 (dU n (bF v.rg) p12 q12 hn (by omega) (by omega)) (List.forall_mem_cons.2 ⟨.head _, List.forall_mem_cons.2 ⟨.tail _ (.head _), nofun⟩⟩) rfl (fun _ => rfl) (⟨rfl, rfl⟩) rfl (fun pre e post g hxs hI lr D r hr okb wb => ?_) (fun g D0 hI => ?_) (fun c pre post g D0 hxs hI => ?_)
 obtain ⟨rfl, hpf⟩ := hI
 have her := probe_rng (n := n) (slots := bF v.rg) (e := e) (by rw [hxs]; simp)
 refine aa ?_
 refine ap (ai rfl) rfl rfl ?_
 refine ae ?_
 refine e_begin rfl hr .z ?_
 refine aR ?_
 refine ak ?_
 refine aa ?_
 refine ap (aF 6 cE rfl rfl rfl) rfl rfl ?_
 refine ap (aQ rfl) rfl rfl ?_
 refine ap (aB dz rfl) rfl rfl ?_
 refine ap (aB dO rfl) rfl rfl ?_
 refine ap (bS 2 bA rfl rfl rfl rfl) rfl rfl ?_
 refine ap (ao rfl) rfl rfl ?_
 refine bk rfl ent_69 rfl (c_rAt v.rg e hv.rg (by omega)) (fun w hw => a8) ?_
 refine ap (ao rfl) rfl rfl ?_
 refine ap (aA rfl rfl) rfl rfl ?_
 refine ap (aA rfl rfl) rfl rfl ?_
 refine a0 aD rfl rfl (fun b14 => ?_)
 refine aE aD rfl rfl rfl .z rfl rfl rfl rfl ?_
 refine ap (ai rfl) rfl rfl ?_
 refine ae ?_
 refine aj ?_
 refine ak ?_
 refine aa ?_
 refine ap (aF 7 cE rfl rfl rfl) rfl rfl ?_
 refine ap (aJ 0 aD rfl rfl rfl rfl) rfl rfl ?_
 refine bk rfl ent_70 rfl (c_vfree v am (atR v.rg e).1 hv (atR_lo _ _)) (fun w hw => (aX (dv 2 rfl hw) (aX (dv 3 rfl hw) (aX (rd_L 9 rfl hw) a8)))) ?_
 refine bg (t := 60) rfl (fun h14_2 => ?_) (fun h14_2 => ?_)
 refine ae ?_
 refine aj ?_
 refine ax rfl ?_
 refine ak ?_
 refine w_drawVA 20 cq (fun w h => ((h.anymp (.s (.s (.s (.s (.s (.s (.s (.s (.z)))))))))).anymp (.s (.s (.s (.s (.s (.s (.s (.s (.s (.z)))))))))))) ?_
 refine aP (i := 0) rfl ab (aF 7 cE rfl rfl rfl) (fun w h => ((h.anymp (.s (.s (.s (.s (.s (.s (.s (.s (.z)))))))))).anymp (.s (.s (.s (.s (.s (.s (.s (.s (.s (.z)))))))))))) av rfl (ah (a6 bl)) (by kernel_rfl) rfl ?_
 refine aP (i := 1) rfl ab (aQ rfl) (fun w h => ((h.anymp (.s (.s (.s (.s (.s (.s (.s (.s (.z)))))))))).anymp (.s (.s (.s (.s (.s (.s (.s (.s (.s (.z)))))))))))) av rfl (ah (a6 bl)) (by kernel_rfl) rfl ?_
 refine aP (i := 2) rfl ab (aB cH rfl) (fun w h => ((h.anymp (.s (.s (.s (.s (.s (.s (.s (.s (.z)))))))))).anymp (.s (.s (.s (.s (.s (.s (.s (.s (.s (.z)))))))))))) av rfl (ah (a6 bl)) (by kernel_rfl) rfl ?_
 refine aP (i := 3) rfl ab (bc 2 d7 rfl rfl rfl) (fun w h => ((h.anymp (.s (.s (.s (.s (.s (.s (.s (.s (.z)))))))))).anymp (.s (.s (.s (.s (.s (.s (.s (.s (.s (.z)))))))))))) av rfl (ah (a6 bl)) (by kernel_rfl) rfl ?_
 refine aP (i := 4) rfl ab (aF 3 ce rfl rfl rfl) (fun w h => ((h.anymp (.s (.s (.s (.s (.s (.s (.s (.s (.z)))))))))).anymp (.s (.s (.s (.s (.s (.s (.s (.s (.s (.z)))))))))))) av rfl (ah (a6 bl)) (by kernel_rfl) rfl ?_
 refine aP (i := 5) rfl ab (aF 7 cE rfl rfl rfl) (fun w h => ((h.anymp (.s (.s (.s (.s (.s (.s (.s (.s (.z)))))))))).anymp (.s (.s (.s (.s (.s (.s (.s (.s (.s (.z)))))))))))) av rfl (ah (a6 bl)) (by kernel_rfl) rfl ?_
 refine aP (i := 6) rfl ab (aQ rfl) (fun w h => ((h.anymp (.s (.s (.s (.s (.s (.s (.s (.s (.z)))))))))).anymp (.s (.s (.s (.s (.s (.s (.s (.s (.s (.z)))))))))))) av rfl (ah (a6 bl)) (by kernel_rfl) rfl ?_
 refine aP (i := 7) rfl ab (aB eu rfl) (fun w h => ((h.anymp (.s (.s (.s (.s (.s (.s (.s (.s (.z)))))))))).anymp (.s (.s (.s (.s (.s (.s (.s (.s (.s (.z)))))))))))) av rfl (ah (a6 bl)) (by kernel_rfl) rfl ?_
 refine aP (i := 8) rfl ab (bc 2 ty_110 rfl rfl rfl) (fun w h => ((h.anymp (.s (.s (.s (.s (.s (.s (.s (.s (.z)))))))))).anymp (.s (.s (.s (.s (.s (.s (.s (.s (.s (.z)))))))))))) av rfl (ah (a6 bl)) (by kernel_rfl) rfl ?_
 refine aP (i := 9) rfl ab (aJ 0 aD rfl rfl rfl rfl) (fun w h => ((h.anymp (.s (.s (.s (.s (.s (.s (.s (.s (.z)))))))))).anymp (.s (.s (.s (.s (.s (.s (.s (.s (.s (.z)))))))))))) av rfl (ah (a6 bl)) (by kernel_rfl) rfl ?_
 refine aP (i := 10) rfl ab (aF 6 ce rfl rfl rfl) (fun w h => ((h.anymp (.s (.s (.s (.s (.s (.s (.s (.s (.z)))))))))).anymp (.s (.s (.s (.s (.s (.s (.s (.s (.s (.z)))))))))))) av rfl (ah (a6 bl)) (by kernel_rfl) rfl ?_
 refine aP (i := 11) rfl ab (aJ 0 aD rfl rfl rfl rfl) (fun w h => ((h.anymp (.s (.s (.s (.s (.s (.s (.s (.s (.z)))))))))).anymp (.s (.s (.s (.s (.s (.s (.s (.s (.s (.z)))))))))))) av rfl (ah (a6 bl)) (by kernel_rfl) rfl ?_
 refine aP (i := 12) rfl ab (a5 rfl (bu_121_0_1 _ _ _ _)) (fun w h => ((h.anymp (.s (.s (.s (.s (.s (.s (.s (.s (.z)))))))))).anymp (.s (.s (.s (.s (.s (.s (.s (.s (.s (.z)))))))))))) av rfl (ah (a6 bl)) (by kernel_rfl) rfl ?_
 refine aP (i := 13) rfl ab (aF 3 ce rfl rfl rfl) (fun w h => ((h.anymp (.s (.s (.s (.s (.s (.s (.s (.s (.z)))))))))).anymp (.s (.s (.s (.s (.s (.s (.s (.s (.s (.z)))))))))))) av rfl (ah (a6 bl)) (by kernel_rfl) rfl ?_
 refine cf (i := 14) rfl (by kernel_rfl) rfl ?_
 refine ep (encK := bT) (encV := cr) Try.underlying109 (cD Try.underlying37) bG rfl rfl (d8 h6_8) (fun st => (.s (.s (.s (.s (.s (.s (.s (.s (.z)))))))))) rfl (fun st14 => ?_)
 refine ae ?_
 refine bu (fun w h => ((h.anymq (v0 := hd0) rfl (.s (.s (.s (.s (.s (.s (.s (.s (.z)))))))))).anymp (.s (.s (.s (.s (.s (.s (.s (.s (.s (.z)))))))))))) ?_
 refine aP (i := 15) rfl ab (aA rfl rfl) (fun w h => ((h.anymq (v0 := hd0) rfl (.s (.s (.s (.s (.s (.s (.s (.s (.z)))))))))).anymp (.s (.s (.s (.s (.s (.s (.s (.s (.s (.z)))))))))))) av rfl (ah (a6 bl)) (by kernel_rfl) rfl ?_
 refine cf (i := 16) rfl (by kernel_rfl) rfl ?_
 refine o_entSt (encK := bT) (encV := cr) (v := (⟨n, (atR v.rg e).1⟩ : Hd)) rfl rfl rfl (.s (.s (.s (.s (.s (.s (.s (.s (.z))))))))) ?_
 refine ae ?_
 refine bu (fun w h => ((h.anymp (.s (.s (.s (.s (.s (.s (.s (.s (.z)))))))))).anymp (.s (.s (.s (.s (.s (.s (.s (.s (.s (.z)))))))))))) ?_
 refine cf (i := 17) rfl (by kernel_rfl) rfl ?_
 refine ep (encK := em) (encV := bT) Try.underlying110 keyl_ad ce rfl rfl (freeV_free h14_2) (fun st => (.s (.s (.s (.s (.s (.s (.s (.s (.s (.z))))))))))) rfl (fun st15 => ?_)
 refine ae ?_
 refine bu (fun w h => ((h.anymp (.s (.s (.s (.s (.s (.s (.s (.s (.z)))))))))).anymq (v0 := ([] : aK)) rfl (.s (.s (.s (.s (.s (.s (.s (.s (.s (.z)))))))))))) ?_
 refine aP (i := 18) rfl ab (aA rfl rfl) (fun w h => ((h.anymp (.s (.s (.s (.s (.s (.s (.s (.s (.z)))))))))).anymq (v0 := ([] : aK)) rfl (.s (.s (.s (.s (.s (.s (.s (.s (.s (.z)))))))))))) av rfl (ah (a6 bl)) (by kernel_rfl) rfl ?_
 refine cf (i := 19) rfl (by kernel_rfl) rfl ?_
 refine o_entSt (encK := em) (encV := bT) (v := (a2 n)) rfl rfl rfl (.s (.s (.s (.s (.s (.s (.s (.s (.s (.z)))))))))) ?_
 refine ae ?_
 refine bu (fun w h => ((h.anymp (.s (.s (.s (.s (.s (.s (.s (.s (.z)))))))))).anymp (.s (.s (.s (.s (.s (.s (.s (.s (.s (.z)))))))))))) ?_
 refine du (by kernel_rfl) ?_
 refine aj ?_
 refine ak ?_
 refine aa ?_
 refine ap (aJ 0 aD rfl rfl rfl rfl) rfl rfl ?_
 refine aE aD rfl rfl rfl (.s (.s (.s (.s (.s (.z)))))) rfl rfl rfl rfl ?_
 refine aE bI rfl rfl rfl (.s (.s (.s (.s (.z))))) rfl rfl rfl rfl ?_
 refine ae ?_
 refine aj ?_
 refine aC ?_
 refine aS ?_
 refine e_rret ((some e)) ?_ (bM 1)
 exact ⟨rfl, by rw [List.find?_append, hpf, List.find?_cons_of_pos (p := (fun i => dl v.res am (atR v.rg i).1)) h14_2]; rfl, rfl⟩
 refine ae ?_
 refine aj ?_
 refine ay rfl ?_
 refine aM ?_
 refine bz ?_
 refine e_rend (none) ?_ (bM 1)
 exact ⟨rfl, by rw [List.find?_append, hpf, List.find?_cons_of_neg (by rw [h14_2]; decide)]; rfl⟩
 obtain ⟨rfl, hpf⟩ := hI
 refine bz ?_
 refine aj ?_
 refine ak ?_
 refine aa ?_
 refine ap (a5 rfl (cS)) rfl rfl ?_
 refine aE aD rfl rfl rfl (.s (.s (.s (.z)))) rfl rfl rfl rfl ?_
 refine aE bI rfl rfl rfl (.s (.s (.z))) rfl rfl rfl rfl ?_
 refine ae ?_
 refine aj ?_
 refine aC ?_
 refine dk ?_
 refine dE .z ?_
 refine cu (rs := [.cell 4 62, .cell 5 31]) rfl (aZ 3 aD rfl rfl rfl rfl (cp 2 bI rfl rfl rfl bi)) (fun w hw => ?_)
 obtain ⟨h1, h2, h3⟩ := (hw.weak (.cons _ (.cons _ (.cons _ (.cons _ (.cons _ (.cons _ (.cons_cons _ (.cons_cons _ .slnil)))))))) (fun s hs => hs)).f1.f1.two.uc
 focus first
   | (have hE := bX (v := v) (hm := hm) (am := am) h3_1
      rw [hE]
      exact ⟨(), rfl, h1, h2, h3⟩)
   | (have hE := bW (v := v) (am := am) h3_1 h6_8
      rw [hE]
      exact ⟨(), rfl, h1, h2, h3⟩)
   | (have hE := bH (am := am) h3_1 h6_8 h9_2
      rw [hE]
      exact ⟨(), rfl, h1, h2, h3⟩)
   | (have hE := bp (am := am) h3_1 h6_8 h9_2 (show a7 v am n = none from hpf)
      rw [hE]
      exact ⟨(), rfl, h1, h2, h3⟩)
   | (have hq : a7 v am n = g := by
        rw [a7, hxs, List.find?_append, ← hq9]
        cases g with
        | none => cases hqs
        | some y => rfl
      have hE := bp (am := am) h3_1 h6_8 h9_2 hq
      rw [hqs, if_pos rfl] at hE
      rw [hE]
      exact ⟨(), rfl, h1, h2, h3⟩)
   | (trace_state; fail)
 obtain ⟨rfl, hq9, hqs⟩ := hI
 refine aC ?_
 refine aS ?_
 refine aw ?_
 refine dk ?_
 refine dE .z ?_
 refine cu (rs := [.cell 4 62, .cell 5 31]) rfl (aZ 3 aD rfl rfl rfl rfl (cp 2 bI rfl rfl rfl bi)) (fun w hw => ?_)
 obtain ⟨h1, h2, h3⟩ := (hw.weak (.cons _ (.cons _ (.cons _ (.cons _ (.cons _ (.cons _ (.cons_cons _ (.cons_cons _ .slnil)))))))) (fun s hs => hs)).f1.f1.two.uc
 focus first
   | (have hE := bX (v := v) (hm := hm) (am := am) h3_1
      rw [hE]
      exact ⟨(), rfl, h1, h2, h3⟩)
   | (have hE := bW (v := v) (am := am) h3_1 h6_8
      rw [hE]
      exact ⟨(), rfl, h1, h2, h3⟩)
   | (have hE := bH (am := am) h3_1 h6_8 h9_2
      rw [hE]
      exact ⟨(), rfl, h1, h2, h3⟩)
   | (have hE := bp (am := am) h3_1 h6_8 h9_2 (show a7 v am n = none from hpf)
      rw [hE]
      exact ⟨(), rfl, h1, h2, h3⟩)
   | (have hq : a7 v am n = g := by
        rw [a7, hxs, List.find?_append, ← hq9]
        cases g with
        | none => cases hqs
        | some y => rfl
      have hE := bp (am := am) h3_1 h6_8 h9_2 hq
      rw [hqs, if_pos rfl] at hE
      rw [hE]
      exact ⟨(), rfl, h1, h2, h3⟩)
   | (trace_state; fail)
 exact wrv_nil
 refine ap (bJ rfl) rfl rfl ?_
 refine ap (ai rfl) rfl rfl ?_
 refine ae ?_
 refine aj ?_
 refine ax rfl ?_
 refine ak ?_
 refine aa ?_
 refine ap (a5 rfl (cS)) rfl rfl ?_
 refine aE aD rfl rfl rfl (.s (.z)) rfl rfl rfl rfl ?_
 refine aE bI rfl rfl rfl .z rfl rfl rfl rfl ?_
 refine ae ?_
 refine aj ?_
 refine aC ?_
 refine aS ?_
 refine aw ?_
 refine dk ?_
 refine cu (rs := [.cell 4 62, .cell 5 31]) rfl (aZ 1 aD rfl rfl rfl rfl (cp 0 bI rfl rfl rfl bi)) (fun w hw => ?_)
 obtain ⟨h1, h2, h3⟩ := (hw.weak (.cons _ (.cons _ (.cons _ (.cons _ (.cons_cons _ (.cons_cons _ .slnil)))))) (fun s hs => hs)).f1.f1.two.uc
 focus first
   | (have hE := bX (v := v) (hm := hm) (am := am) h3_1
      rw [hE]
      exact ⟨(), rfl, h1, h2, h3⟩)
   | (have hE := bW (v := v) (am := am) h3_1 h6_8
      rw [hE]
      exact ⟨(), rfl, h1, h2, h3⟩)
   | (have hE := bH (am := am) h3_1 h6_8 h9_2
      rw [hE]
      exact ⟨(), rfl, h1, h2, h3⟩)
   | (have hE := bp (am := am) h3_1 h6_8 h9_2 (show a7 v am n = none from hpf)
      rw [hE]
      exact ⟨(), rfl, h1, h2, h3⟩)
   | (have hq : a7 v am n = g := by
        rw [a7, hxs, List.find?_append, ← hq9]
        cases g with
        | none => cases hqs
        | some y => rfl
      have hE := bp (am := am) h3_1 h6_8 h9_2 hq
      rw [hqs, if_pos rfl] at hE
      rw [hE]
      exact ⟨(), rfl, h1, h2, h3⟩)
   | (trace_state; fail)
end Go.Proofs.Ytnpdgmoeoidppaa
