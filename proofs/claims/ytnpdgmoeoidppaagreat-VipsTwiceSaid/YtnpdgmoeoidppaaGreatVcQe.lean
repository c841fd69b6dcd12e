import Derived.Test.YtnpdgmoeoidppaaGreatLzQe
/- vips: a pool -/
namespace Go.Proofs.YtnpdgmoeoidppaaGreat
open Go.RowKit Go.Shelf
set_option linter.unusedVariables false
set_option linter.unusedSimpArgs false

theorem bu_46_0_1 (x0 : aK) (x1 : Bool) (x2 : Int) (x3 : Int) : Tryz.prog.built 46 [(0, .string (ba x0)), (1, .agg [.bool x1, .int .u64 x2, .int .u64 x3].toArray)] = some [.string (ba x0), .bool x1, .int .u64 x2, .int .u64 x3].toArray := by kernel_rfl
theorem ent_104 : Enters Tryz.prog 104 := enters_of Tryz.func104 (by kernel_rfl) rfl
theorem ent_164 : Enters Tryz.prog 164 := enters_of Tryz.func164 (by kernel_rfl) rfl
theorem ent_35 : Enters Tryz.prog 35 := enters_of Tryz.func35 (by kernel_rfl) rfl
theorem ent_95 : Enters Tryz.prog 95 := enters_of Tryz.func95 (by kernel_rfl) rfl
theorem ent_96 : Enters Tryz.prog 96 := enters_of Tryz.func96 (by kernel_rfl) rfl
theorem ent_98 : Enters Tryz.prog 98 := enters_of Tryz.func98 (by kernel_rfl) rfl
theorem ent_99 : Enters Tryz.prog 99 := enters_of Tryz.func99 (by kernel_rfl) rfl
theorem eE : FA Tryz.prog 146 0 0 := fun b o w => by kernel_rfl
theorem cX : FA Tryz.prog 146 1 5 := fun b o w => by kernel_rfl
theorem eZ : FA Tryz.prog 146 2 6 := fun b o w => by kernel_rfl
theorem fa_146_3 : FA Tryz.prog 146 3 7 := fun b o w => by kernel_rfl
theorem fa_46_1 : FA Tryz.prog 46 1 1 := fun b o w => by kernel_rfl
theorem eH : FA Tryz.prog 67 0 0 := fun b o w => by kernel_rfl
theorem fm : FA Tryz.prog 67 1 4 := fun b o w => by kernel_rfl
theorem dJ : TyI Tryz.prog 143 false 1 8 (.map none) := TyI.mk' (by kernel_rfl) (fun _ => by kernel_rfl)
theorem ty_144 : TyI Tryz.prog 144 false 1 8 (.map none) := TyI.mk' (by kernel_rfl) (fun _ => by kernel_rfl)
theorem eb : TyI Tryz.prog 68 false 1 8 (.pointer none) := TyI.mk' (by kernel_rfl) (fun _ => by kernel_rfl)

abbrev ck : Hd → Value := fun h => .agg (hdC h).toArray
/-- A pool that was made: its range, what is reserved, its room, where it lies. -/
structure Vp where
  rg : Rg
  res : List Rg
  A : Option Addr
  c : Nat
  room : Int
  b : Nat
  rh : Nat
  ra : Nat
def plC (r : Rg) (A : Option Addr) (n c : Nat) : List Value := [.bool r.base.six, .int .u64 r.base.hi, .int .u64 r.base.lo, .int .i64 r.bits, .slice A n c]
def vpC (v : Vp) : List Value := [.bool v.rg.base.six, .int .u64 v.rg.base.hi, .int .u64 v.rg.base.lo, .int .i64 v.rg.bits, .slice v.A v.res.length v.c, .map (some v.rh), .map (some v.ra), .int .i64 v.room]
structure VOk (v : Vp) : Prop where
  rg : RgOk v.rg
  res : ∀ x ∈ v.res, RgOk x
  len : v.res.length ≤ 1000000000000
  room : 0 ≤ v.room ∧ v.room ≤ 65536
abbrev Hm := List (aK × Hd)
abbrev Am := List (Ad × aK)
def vmC (v : Vp) (hm : Hm) (am : Am) : Ch := Ch.two (Ch.mp v.rh bM ck hm) (Ch.mp v.ra eh bM am)
def fC : List Rg → Int
  | [] => 0
  | r :: t => if cy r ≠ 0 then cy r else fC t
theorem cksR_drop {l : List Rg} {k : Nat} (hk : k < l.length) (h : fC l = fC (l.drop k)) : fC l = if cy (l.getD k rg0) ≠ 0 then cy (l.getD k rg0) else fC (l.drop (k + 1)) := by
  rw [h, ew l rg0 k hk, fC]
def br (n : aK) : Bool := decide (n ≠ []) && decide (bp n = 0)
def dw (res : List Rg) (am : Am) (a : Ad) : Bool := !(cD am a).isSome && eo res a
def adO (v : Vp) (g : Option Int) : Ad := match g with | none => ad0 | some i => (atR v.rg i).1
def hmO (v : Vp) (hm : Hm) (n : aK) (g : Option Int) : Hm := match g with | none => hm | some i => hm ++ [(aY n, ⟨n, (atR v.rg i).1⟩)]
def amO (v : Vp) (am : Am) (n : aK) (g : Option Int) : Am := match g with | none => am | some i => am ++ [((atR v.rg i).1, aY n)]
def bq (v : Vp) (am : Am) (n : aK) : Option Int := (c7 n (bE v.rg)).find? fun i => dw v.res am (atR v.rg i).1
def bl (v : Vp) (hm : Hm) (am : Am) (n : aK) : (Ad × Int) × Hm × Am :=
  if br n = false then ((ad0, 2), hm, am) else
  match cD hm (aY n) with
  | some h => ((h.ad, 0), hm, am)
  | none => if v.room - hm.length = 0 then ((ad0, 10), hm, am) else
    ((adO v (bq v am n), if (bq v am n).isSome = true then 0 else 10), hmO v hm n (bq v am n), amO v am n (bq v am n))
theorem cY {v : Vp} {hm : Hm} {am : Am} {n : aK} (h : br n = false) : bl v hm am n = ((ad0, 2), hm, am) := if_pos h
theorem cr {v : Vp} {hm : Hm} {am : Am} {n : aK} (h : br n = true) (h2 : (cD hm (aY n)).isSome = true) : bl v hm am n = ((((cD hm (aY n)).getD fV).ad, 0), hm, am) := by
  rw [bl, if_neg (by rw [h]; decide)]
  cases h3 : cD hm (aY n) with
  | none => rw [h3] at h2; cases h2
  | some x => rfl
theorem cn {v : Vp} {hm : Hm} {am : Am} {n : aK} (h : br n = true) (h2 : (cD hm (aY n)).isSome = false) (h4 : v.room - hm.length = 0) : bl v hm am n = ((ad0, 10), hm, am) := by
  rw [bl, if_neg (by rw [h]; decide)]
  cases h3 : cD hm (aY n) with
  | some x => rw [h3] at h2; cases h2
  | none => exact if_pos h4
theorem bG {v : Vp} {hm : Hm} {am : Am} {n : aK} (h : br n = true) (h2 : (cD hm (aY n)).isSome = false) (h4 : ¬ v.room - hm.length = 0) {g : Option Int} (hg : bq v am n = g) : bl v hm am n = ((adO v g, if g.isSome = true then 0 else 10), hmO v hm n g, amO v am n g) := by
  subst hg
  rw [bl, if_neg (by rw [h]; decide)]
  cases h3 : cD hm (aY n) with
  | some x => rw [h3] at h2; cases h2
  | none => exact if_neg h4
def gh (hm : Hm) (am : Am) (key : aK) : Hm × Am := (rmv hm key, rmv am ((cD hm key).getD fV).ad)
def dh (hm : Hm) (am : Am) (n : aK) : Int × Hm × Am := if br n = false then (2, hm, am) else if (cD hm (aY n)).isSome = false then (5, hm, am) else (0, gh hm am (aY n))
theorem look2_hd {o : Option Hd} : Value.tuple [(o.map ck).getD (.agg [.string .empty, .bool false, .int .u64 0, .int .u64 0].toArray), .bool o.isSome].toArray = .tuple #[.agg (hdC (o.getD fV)).toArray, .bool o.isSome] := by cases o <;> rfl
theorem look1_hd {o : Option Hd} : (o.map ck).getD (.agg [.string .empty, .bool false, .int .u64 0, .int .u64 0].toArray) = .agg (hdC (o.getD fV)).toArray := by cases o <;> rfl
theorem look2_n {o : Option aK} : Value.tuple [(o.map bM).getD (.string .empty), .bool o.isSome].toArray = .tuple #[.string (ba (o.getD [])), .bool o.isSome] := by cases o <;> rfl
theorem look1_b {o : Option Bool} : (o.map (fun b : Bool => Value.bool b)).getD (.bool false) = .bool (o.getD false) := by cases o <;> rfl
theorem eI {α β : Type} [DecidableEq α] {m : List (α × β)} {a : α} (h : (cD m a).isSome = false) : cD m a = none := by
  cases hh : cD m a with
  | none => rfl
  | some x => rw [hh] at h; cases h
theorem fR {res : List Rg} {am : Am} {a : Ad} (h : dw res am a = true) : cD am a = none := eI (by
  simp only [dw, Bool.and_eq_true, Bool.not_eq_true'] at h; exact h.1)

theorem c_vCheck (rg : Rg) (res : List Rg) (A : Option Addr) (c : Nat) (hr : RgOk rg) (hrs : ∀ x ∈ res, RgOk x) (hl : res.length ≤ 1000000000000) : RC Tryz.prog 43 #[.agg (plC rg A res.length c).toArray] [Ch.rd A 4 dX res] (α := Unit) (fun _ => .int .i64 (fC (rg :: res))) (fun _ => []) := by
 refine bd (args := [.agg (plC rg A res.length c).toArray]) 23 Tryz.func43 rfl rfl rfl (fun w0 => ?_)
 have hall : ∀ x ∈ [rg] ++ res, RgOk x := fun x hx => (List.mem_append.1 hx).elim (fun h => by rw [List.mem_singleton.1 h]; exact hr) (hrs x)
 have hle : ([rg] ++ res).length = res.length + 1 := by simp
 refine ao ?_
 refine aa ?_
 refine bu rfl rfl rfl (fun b1 => ?_)
 refine ap (ai rfl) rfl rfl ?_
 refine ab ?_
 refine aj ?_
 refine ao ?_
 refine ao ?_
 refine aa ?_
 refine ap (aA eH rfl) rfl rfl ?_
 refine ap (aJ 0 cw rfl rfl rfl rfl) rfl rfl ?_
 refine f9 (vs := [_]) ([rg] : List (Rg)) enc_rg Tryz.underlying65 cw rfl rfl rfl rfl rfl rfl (fun As2 => ?_)
 refine ap (aA fm rfl) rfl rfl ?_
 refine ap (aH 1 ty_65 rfl rfl rfl) rfl rfl ?_
 refine fe (enc := dX) (sz := 4) res Tryz.underlying65 cw rfl rfl rfl (fun A c => .z) (src_S 0 Tryz.underlying65 rfl) (by simp only [List.length_cons, List.length_nil]; omega) (by simp only [List.length_cons, List.length_nil]; omega) rfl (fun A2 c2 => ?_)
 refine ap (bL Tryz.underlying65 rfl) rfl rfl ?_
 refine ap (ak rfl) rfl rfl ?_
 refine ab ?_
 refine aj ?_
 refine aP ?_
 refine cQ (σ := Nat) [2, 4, 5, 13, 14, 15, 16, 17, 18, 19, 20, 21, 22] (fun k => k ≤ ([rg] ++ res).length ∧ fC ([rg] ++ res) = fC (([rg] ++ res).drop k)) (fun k => ([rg] ++ res).length - k) (fun k => [(13, .int .i64 k)]) (0) ?_ ⟨rfl, trivial⟩ (fun k hI => ?_)
 exact ⟨Nat.zero_le _, rfl⟩
 refine ao ?_
 refine aa ?_
 refine ap (ce rfl rfl) rfl rfl ?_
 refine aC (t := 14) rfl (fun h2_0 => ?_) (fun h2_0 => ?_)
 have hk : k < ([rg] ++ res).length := by omega
 have hck := cksR_drop hk hI.2
 have hxk := hall _ (cg (d := rg0) hk)
 refine ab ?_
 refine aj ?_
 refine ao ?_
 refine ax rfl ?_
 refine aF ?_
 refine aj ?_
 refine ao ?_
 refine aP ?_
 refine ao ?_
 refine aa ?_
 refine ap (cB  Tryz.underlying65 cw rfl rfl (rs_L 0 rfl) rfl (by omega)) rfl rfl ?_
 refine ap (gi enc_rg rg0 cw rfl (rs_L 0 rfl) (by omega) rfl rfl rfl) rfl rfl ?_
 refine bx cw rfl rfl (fun b4 => ?_)
 refine aS cw rfl rfl rfl .z rfl rfl rfl rfl ?_
 refine ab ?_
 refine aj ?_
 refine ao ?_
 refine aa ?_
 refine ap (aJ 0 cw rfl rfl rfl rfl) rfl rfl ?_
 refine aU rfl ent_110 (c_rCheck (([rg] ++ res).getD k rg0) hxk.lo.1) rfl ?_
 refine ap (ai rfl) rfl rfl ?_
 refine ab ?_
 refine aj ?_
 refine ao ?_
 refine aa ?_
 refine ap (ak rfl) rfl rfl ?_
 refine ap (b8 rfl rfl) rfl rfl ?_
 refine aC (t := 20) rfl (fun h5_1 => ?_) (fun h5_1 => ?_)
 refine ab ?_
 refine aj ?_
 refine ax rfl ?_
 refine ao ?_
 refine aa ?_
 refine ap (ak rfl) rfl rfl ?_
 refine ap (ai rfl) rfl rfl ?_
 refine ab ?_
 refine aj ?_
 refine aB ?_
 refine aM ?_
 refine aw ?_
 refine bk ?_
 refine aM ?_
 refine aw ?_
 refine aG (ts := [2]) rfl rfl rfl (fun w hw => ?_)
 have hE : fC (rg :: res) = cy (([rg] ++ res).getD k rg0) := hck.trans (if_pos h5_1)
 exact ⟨(), by rw [hE]; rfl, hw.base, (hw.weak (List.nil_sublist _) (fun s hs => hs)).toNews⟩
 refine ab ?_
 refine aj ?_
 refine au rfl ?_
 refine aF ?_
 refine bw ?_
 refine aj ?_
 refine aa ?_
 refine ap (bF rfl rfl (by omega) (by omega)) rfl rfl ?_
 refine ap (ak rfl) rfl rfl ?_
 refine ab ?_
 refine bH (k + 1) ?_ ?_ ⟨rfl, trivial⟩ (by repeat (first | exact trivial | refine ⟨rfl, ?_⟩)) (cE 1)
 exact ⟨by omega, by rw [hck, if_neg h5_1]⟩
 omega
 refine ab ?_
 refine aj ?_
 refine ao ?_
 refine au rfl ?_
 refine bP ?_
 refine bb ?_
 refine a6 ?_
 refine bc ?_
 refine aj ?_
 refine ao ?_
 refine aa ?_
 refine ap (ai rfl) rfl rfl ?_
 refine ab ?_
 refine aj ?_
 refine aB ?_
 refine aG (ts := [2]) rfl rfl rfl (fun w hw => ?_)
 have hE : fC (rg :: res) = 0 := by
   have h9 := hI.2
   rw [List.drop_of_length_le (by omega)] at h9; exact h9
 exact ⟨(), by rw [hE]; rfl, hw.base, (hw.weak (List.nil_sublist _) (fun s hs => hs)).toNews⟩

theorem c_Clone_rg (l : List Rg) (A : Option Addr) (c : Nat) (hl : l.length ≤ 1000000000000) : RC Tryz.prog 90 #[.slice A l.length c] [Ch.rd A 4 dX l] (α := Option Addr × Nat) (fun p => .slice p.1 l.length p.2) (fun p => [Ch.ls p.1 p.2 64 4 dX l]) := by
 refine bd (args := [.slice A l.length c]) 8 Tryz.func90 rfl rfl rfl (fun w0 => ?_)
 refine ao ?_
 refine aa ?_
 refine ap (ai rfl) rfl rfl ?_
 refine ab ?_
 refine aj ?_
 refine ao ?_
 refine ao ?_
 refine aa ?_
 refine ap (ak rfl) rfl rfl ?_
 refine ap (y_eqsn Tryz.underlying65 rfl rfl) rfl rfl ?_
 refine bh (t := 4) rfl (fun h1_1 => ?_) (fun h1_1 => ?_)
 refine ab ?_
 refine aj ?_
 refine ax rfl ?_
 refine ao ?_
 refine aa ?_
 refine ap (ai rfl) rfl rfl ?_
 refine ab ?_
 refine aj ?_
 refine aB ?_
 refine aw ?_
 refine aG (ts := [2]) rfl rfl rfl (fun w hw => ?_)
 have hr : RsP A l.length 4 _ w := hw.sh _ List.mem_cons_self
 have h0 : l = [] := List.length_eq_zero_iff.1 (rs_none hr h1_1)
 subst h0
 exact ⟨(none, 0), rfl, hw.base, (hw.nilsl 64 4).toNews⟩
 refine ab ?_
 refine aj ?_
 refine au rfl ?_
 refine aF ?_
 refine aj ?_
 refine ao ?_
 refine aa ?_
 refine f9 (vs := []) ([] : List (Rg)) enc_rg Tryz.underlying65 cw rfl rfl rfl rfl rfl rfl (fun As1 => ?_)
 refine ap (ak rfl) rfl rfl ?_
 refine fe (enc := dX) (sz := 4) l Tryz.underlying65 cw rfl rfl rfl (fun A c => .z) (src_S 0 Tryz.underlying65 rfl) (by simp only [List.length_cons, List.length_nil, Nat.zero_add]; omega) (by simp only [List.length_cons, List.length_nil, Nat.zero_add]; omega) rfl (fun A1 c1 => ?_)
 refine ap (ai rfl) rfl rfl ?_
 refine ab ?_
 refine aj ?_
 refine aB ?_
 refine aG (ts := [2]) rfl rfl rfl (fun w hw => ?_)
 exact ⟨(A1, c1), rfl, hw.base, hw.toNews⟩

theorem c_vhost (n : aK) : Pure Tryz.prog 95 #[.string (ba n)] (.bool (br n)) := by
 intro w0
 refine aZ (ok0 := no) (S := []) (args := [.string (ba n)]) 10 Tryz.func95 rfl rfl rfl (by simp) (by simp) ?_
 refine ao ?_
 refine aa ?_
 refine ap (ai rfl) rfl rfl ?_
 refine ab ?_
 refine aj ?_
 refine ao ?_
 refine aa ?_
 refine ap (ak rfl) rfl rfl ?_
 refine ap (y_neqs rfl rfl) rfl rfl ?_
 refine aC (t := 4) rfl (fun h1_1 => ?_) (fun h1_1 => ?_)
 refine ap (ak rfl) rfl rfl ?_
 refine ay rfl rfl ?_
 refine ap (ak rfl) rfl rfl ?_
 refine ay rfl rfl ?_
 refine aU rfl ent_74 (gq _) rfl ?_
 refine ay rfl rfl ?_
 refine ap (eT rfl rfl) rfl rfl ?_
 refine ap (aT rfl rfl) rfl rfl ?_
 refine ap (ai rfl) rfl rfl ?_
 refine ab ?_
 refine aj ?_
 refine aB ?_
 refine aG (ts := [2]) rfl rfl rfl (fun w hw => ?_)
 refine ⟨?_, hw.base⟩
 show Ending.returned (.bool _) = _
 congr 2
 focus first
   | (rw [br, decide_eq_true h1_1]; rfl)
   | (rw [br, decide_eq_false h1_1]; rfl)
   | (trace_state; fail)
 refine ap (ak rfl) rfl rfl ?_
 refine aR rfl rfl rfl rfl ?_
 refine aR rfl rfl rfl rfl ?_
 refine aR rfl rfl rfl rfl ?_
 refine ap (aN rfl rfl) rfl rfl ?_
 refine ap (ai rfl) rfl rfl ?_
 refine ab ?_
 refine aj ?_
 refine aB ?_
 refine aG (ts := [2]) rfl rfl rfl (fun w hw => ?_)
 refine ⟨?_, hw.base⟩
 show Ending.returned (.bool _) = _
 congr 2
 focus first
   | (rw [br, decide_eq_true h1_1]; rfl)
   | (rw [br, decide_eq_false h1_1]; rfl)
   | (trace_state; fail)

set_option maxRecDepth 100000 in
theorem c_vFree (v : Vp) (hm : Hm) (hv : VOk v) (hml : hm.length ≤ 1000000) : RC Tryz.prog 35 #[.pointer (some ⟨v.b, 0, none⟩)] [Ch.row v.b (vpC v) 146, Ch.mp v.rh bM ck hm] (α := Unit) (fun _ => .int .i64 (v.room - hm.length)) (fun _ => []) := by
 refine bd (args := [.pointer (some ⟨v.b, 0, none⟩)]) 15 Tryz.func35 rfl rfl rfl (fun w0 => ?_)
 refine ao ?_
 refine aa ?_
 refine ap (ai rfl) rfl rfl ?_
 refine ab ?_
 refine aj ?_
 refine ao ?_
 refine ao ?_
 refine aa ?_
 refine ap (ak rfl) rfl rfl ?_
 refine ap (fc Tryz.underlying68 rfl rfl) rfl rfl ?_
 refine bT (t := 4) (.bool false) rfl (congrArg Value.bool rfl) ?_
 refine ab ?_
 refine aj ?_
 refine au rfl ?_
 refine aF ?_
 refine aj ?_
 refine ao ?_
 refine dC 11 rfl mixed ?_
 have hvr := hv.room
 refine ar (i := 0) rfl ah (ak rfl) av av rfl (ae aq) (by kernel_rfl) rfl ?_
 refine ar (i := 1) rfl ah (aX rfl) av av rfl (ae aq) (by kernel_rfl) rfl ?_
 refine ar (i := 2) rfl ah (aA fa_146_3 rfl) av av rfl (ae aq) (by kernel_rfl) rfl ?_
 refine ar (i := 3) rfl ah (bo 0 dY rfl rfl rfl) av av rfl (ae aq) (by kernel_rfl) rfl ?_
 refine ar (i := 4) rfl ah (ak rfl) av av rfl (ae aq) (by kernel_rfl) rfl ?_
 refine ar (i := 5) rfl ah (aX rfl) av av rfl (ae aq) (by kernel_rfl) rfl ?_
 refine ar (i := 6) rfl ah (aA cX rfl) av av rfl (ae aq) (by kernel_rfl) rfl ?_
 refine ar (i := 7) rfl ah (bo 0 dJ rfl rfl rfl) av av rfl (ae aq) (by kernel_rfl) rfl ?_
 refine ar (i := 8) rfl ah (y_lenmp (encK := bM) (encV := ck) Tryz.underlying143 rfl (fun w hw => hw.sh _ (List.mem_of_getElem? (i := 1) rfl))) av av rfl (ae aq) (by kernel_rfl) rfl ?_
 refine ar (i := 9) rfl ah (fS rfl rfl (by omega) (by omega)) av av rfl (ae aq) (by kernel_rfl) rfl ?_
 refine ar (i := 10) rfl ah (ai rfl) av av rfl (ae aq) (by kernel_rfl) rfl ?_
 refine bU (by kernel_rfl) ?_
 refine aj ?_
 refine aB ?_
 refine aG (ts := [2]) rfl rfl rfl (fun w hw => ?_)
 exact ⟨(), rfl, hw.base, (hw.weak (List.nil_sublist _) (fun s hs => hs)).toNews⟩

set_option maxRecDepth 100000 in
theorem c_vfree (v : Vp) (am : Am) (a : Ad) (hv : VOk v) (ha : 0 ≤ a.lo) : RC Tryz.prog 99 #[.pointer (some ⟨v.b, 0, none⟩), .agg (dP a).toArray] [Ch.row v.b (vpC v) 146, Ch.rd v.A 4 dX v.res, Ch.mp v.ra eh bM am] (α := Unit) (fun _ => .bool (dw v.res am a)) (fun _ => []) := by
 refine bd (args := [.pointer (some ⟨v.b, 0, none⟩), .agg (dP a).toArray]) 25 Tryz.func99 rfl rfl rfl (fun w0 => ?_)
 refine ao ?_
 refine aa ?_
 refine bu rfl rfl rfl (fun b1 => ?_)
 refine ap (ai rfl) rfl rfl ?_
 refine ab ?_
 refine aj ?_
 refine ao ?_
 refine ao ?_
 refine gc 11 rfl mixed ?_
 refine aW (i := 0) rfl ah (ak rfl) av av rfl (ae (ae aq)) (by kernel_rfl) rfl ?_
 refine aW (i := 1) rfl ah (aX rfl) av av rfl (ae (ae aq)) (by kernel_rfl) rfl ?_
 refine aW (i := 2) rfl ah (aA eZ rfl) av av rfl (ae (ae aq)) (by kernel_rfl) rfl ?_
 refine aW (i := 3) rfl ah (bo 0 ty_144 rfl rfl rfl) av av rfl (ae (ae aq)) (by kernel_rfl) rfl ?_
 refine aW (i := 4) rfl ah (aJ 0 aQ rfl rfl rfl rfl) av av rfl (ae (ae aq)) (by kernel_rfl) rfl ?_
 refine c9 (i := 5) rfl rfl rfl (fun _ _ _ => bz (by kernel_rfl)) (by kernel_rfl) rfl ?_
 refine ap (fx Tryz.underlying144 keyl_ad bQ rfl rfl (fun w hw => hw.sh _ (List.mem_of_getElem? (i := 2) rfl))) rfl rfl ?_
 refine ab ?_
 refine bK av ?_
 refine wu_as (t := 13) (.tuple #[.string (ba ((cD am a).getD [])), .bool (cD am a).isSome]) rfl look2_n ?_
 refine aW (i := 6) rfl ah (ak rfl) av av rfl (ae (ae aq)) (by kernel_rfl) rfl ?_
 refine aW (i := 7) rfl ah (aD rfl rfl) av av rfl (ae (ae aq)) (by kernel_rfl) rfl ?_
 refine aW (i := 8) rfl ah (aD rfl rfl) av av rfl (ae (ae aq)) (by kernel_rfl) rfl ?_
 refine wu_splitb (t := 15) rfl (fun h1_8 => ?_) (fun h1_8 => ?_)
 refine aW (i := 9) rfl ah (ai rfl) av av rfl (ae (ae aq)) (by kernel_rfl) rfl ?_
 refine aW (i := 10) rfl ah (ai rfl) av av rfl (ae (ae aq)) (by kernel_rfl) rfl ?_
 refine dL (by kernel_rfl) ?_
 refine aj ?_
 refine ao ?_
 refine aa ?_
 refine ap (ak rfl) rfl rfl ?_
 refine ab ?_
 refine aj ?_
 refine ax rfl ?_
 refine ao ?_
 refine aa ?_
 refine ap (ai rfl) rfl rfl ?_
 refine ab ?_
 refine aj ?_
 refine aB ?_
 refine aw ?_
 refine aG (ts := [4]) rfl rfl rfl (fun w hw => ?_)
 refine ⟨(), ?_, hw.base, (hw.weak (List.nil_sublist _) (fun s hs => hs)).toNews⟩
 show Ending.returned (.bool _) = _
 congr 2
 focus first
   | (rw [dw, h1_8]; rfl)
   | (trace_state; fail)
 refine aW (i := 9) rfl ah (ai rfl) av av rfl (ae (ae aq)) (by kernel_rfl) rfl ?_
 refine aW (i := 10) rfl ah (ai rfl) av av rfl (ae (ae aq)) (by kernel_rfl) rfl ?_
 refine dL (by kernel_rfl) ?_
 refine aj ?_
 refine ao ?_
 refine aa ?_
 refine ap (ak rfl) rfl rfl ?_
 refine ab ?_
 refine aj ?_
 refine au rfl ?_
 refine aF ?_
 refine aj ?_
 refine ao ?_
 refine aa ?_
 refine ap (ak rfl) rfl rfl ?_
 refine ap (aX rfl) rfl rfl ?_
 refine ap (aA eE rfl) rfl rfl ?_
 refine ap (aA fm rfl) rfl rfl ?_
 refine ap (bo 0 ty_65 rfl rfl rfl) rfl rfl ?_
 refine ap (c4 rfl rfl) rfl rfl ?_
 refine bi rfl ent_157 rfl (c_cntV v.res v.A v.c a b1 hv.res ha hv.len) (fun w hw => (aI (cL 1 rfl hw) (aI (eW 0 rfl hw) a8))) ?_
 refine ap (bB rfl) rfl rfl ?_
 refine ap (ai rfl) rfl rfl ?_
 refine ab ?_
 refine aj ?_
 refine aB ?_
 refine aG (ts := [4]) rfl rfl rfl (fun w hw => ?_)
 refine ⟨(), ?_, hw.base, (hw.weak (List.nil_sublist _) (fun s hs => hs)).toNews⟩
 show Ending.returned (.bool _) = _
 congr 2
 focus first
   | (rw [dw, h1_8]; rfl)
   | (trace_state; fail)

set_option maxRecDepth 100000 in
theorem c_vdrop (v : Vp) (hm : Hm) (am : Am) (key : aK) : UC Tryz.prog 104 #[.pointer (some ⟨v.b, 0, none⟩), .string (ba key)] [Ch.row v.b (vpC v) 146] (vmC v hm am) (α := Unit) (fun _ => .tuple #[]) (fun _ => vmC v (gh hm am key).1 (gh hm am key).2) := by
 refine d3 (args := [.pointer (some ⟨v.b, 0, none⟩), .string (ba key)]) 20 Tryz.func104 rfl rfl rfl (fun w0 => ?_)
 refine cH (fun w h => h.untwo) ?_
 refine ao ?_
 refine gc 11 rfl mixed ?_
 refine aW (i := 0) rfl ah (ak rfl) av av rfl (ae aq) (by kernel_rfl) rfl ?_
 refine aW (i := 1) rfl ah (aX rfl) av av rfl (ae aq) (by kernel_rfl) rfl ?_
 refine aW (i := 2) rfl ah (aA eZ rfl) av av rfl (ae aq) (by kernel_rfl) rfl ?_
 refine aW (i := 3) rfl ah (bo 0 ty_144 rfl rfl rfl) av av rfl (ae aq) (by kernel_rfl) rfl ?_
 refine aW (i := 4) rfl ah (ak rfl) av av rfl (ae aq) (by kernel_rfl) rfl ?_
 refine aW (i := 5) rfl ah (aX rfl) av av rfl (ae aq) (by kernel_rfl) rfl ?_
 refine aW (i := 6) rfl ah (aA cX rfl) av av rfl (ae aq) (by kernel_rfl) rfl ?_
 refine aW (i := 7) rfl ah (bo 0 dJ rfl rfl rfl) av av rfl (ae aq) (by kernel_rfl) rfl ?_
 refine aW (i := 8) rfl ah (ak rfl) av av rfl (ae aq) (by kernel_rfl) rfl ?_
 refine c9 (i := 9) rfl rfl rfl (fun _ _ _ => bz (by kernel_rfl)) (by kernel_rfl) rfl ?_
 refine ap (y_lookup Tryz.underlying143 (cN Tryz.underlying26) cp rfl rfl (fun w hw => hw.own _ (List.mem_of_getElem? (i := 0) rfl))) rfl rfl ?_
 refine ab ?_
 refine bK av ?_
 refine wu_as (t := 13) (.agg (hdC ((cD hm key).getD fV)).toArray) rfl look1_hd ?_
 refine aW (i := 10) rfl ah (y_fieldv (v := .agg (dP ((cD hm key).getD fV).ad).toArray) rfl (fun w => by kernel_rfl)) av av rfl (ae aq) (by kernel_rfl) rfl ?_
 refine c9 (i := 11) rfl rfl rfl (fun _ _ _ => bz (by kernel_rfl)) (by kernel_rfl) rfl ?_
 refine o_mapDel (encK := eh) (encV := bM) (a := ((cD hm key).getD fV).ad) Tryz.underlying144 keyl_ad rfl rfl (.s (.z)) ?_
 refine ab ?_
 refine eu_tail rfl ?_
 refine dL (by kernel_rfl) ?_
 refine aj ?_
 refine aa ?_
 refine ap (ak rfl) rfl rfl ?_
 refine ap (aX rfl) rfl rfl ?_
 refine ap (aA cX rfl) rfl rfl ?_
 refine ap (bo 0 dJ rfl rfl rfl) rfl rfl ?_
 refine ap (ak rfl) rfl rfl ?_
 refine o_mapDel (encK := bM) (encV := ck) (a := key) Tryz.underlying143 (cN Tryz.underlying26) rfl rfl .z ?_
 refine ab ?_
 refine fY (ts := []) rfl rfl rfl (fun w hw => ?_)
 obtain ⟨h1, h2, h3⟩ := hw.two.uc
 exact ⟨(), rfl, h1, h2, h3⟩

theorem c_vDrop (v : Vp) (hm : Hm) (am : Am) (n : aK) (hn : n.length ≤ 1000000000) : UC Tryz.prog 38 #[.pointer (some ⟨v.b, 0, none⟩), .string (ba n)] [Ch.row v.b (vpC v) 146] (vmC v hm am) (α := Unit) (fun o => .int .i64 (dh hm am n).1) (fun o => vmC v (dh hm am n).2.1 (dh hm am n).2.2) := by
 refine d3 (args := [.pointer (some ⟨v.b, 0, none⟩), .string (ba n)]) 31 Tryz.func38 rfl rfl rfl (fun w0 => ?_)
 refine cH (fun w h => h.untwo) ?_
 refine ao ?_
 refine aa ?_
 refine ap (ai rfl) rfl rfl ?_
 refine ab ?_
 refine aj ?_
 refine ao ?_
 refine aP ?_
 refine ao ?_
 refine aa ?_
 refine ap (ak rfl) rfl rfl ?_
 refine ap (fc Tryz.underlying68 rfl rfl) rfl rfl ?_
 refine bT (t := 10) (.bool false) rfl (congrArg Value.bool rfl) ?_
 refine ap (ai rfl) rfl rfl ?_
 refine ab ?_
 refine aj ?_
 refine au rfl ?_
 refine ao ?_
 refine aa ?_
 refine ap (ak rfl) rfl rfl ?_
 refine aU rfl ent_95 (c_vhost _) rfl ?_
 refine bh (t := 13) rfl (fun h3_1 => ?_) (fun h3_1 => ?_)
 refine ap (bB rfl) rfl rfl ?_
 refine ap (ai rfl) rfl rfl ?_
 refine ab ?_
 refine aj ?_
 refine au rfl ?_
 refine aF ?_
 refine bw ?_
 refine aj ?_
 refine ao ?_
 refine aa ?_
 refine ap (ak rfl) rfl rfl ?_
 refine aU rfl ent_73 (dI _ (by omega)) rfl ?_
 refine ap (ai rfl) rfl rfl ?_
 refine ab ?_
 refine aj ?_
 refine ao ?_
 refine ao ?_
 refine aa ?_
 refine ap (ak rfl) rfl rfl ?_
 refine ap (aX rfl) rfl rfl ?_
 refine ap (aA cX rfl) rfl rfl ?_
 refine ap (bo 0 dJ rfl rfl rfl) rfl rfl ?_
 refine ap (ak rfl) rfl rfl ?_
 refine ap (fx Tryz.underlying143 (cN Tryz.underlying26) cp rfl rfl (fun w hw => hw.own _ (List.mem_of_getElem? (i := 0) rfl))) rfl rfl ?_
 refine bT (t := 23) (.tuple #[.agg (hdC ((cD hm (aY n)).getD fV)).toArray, .bool (cD hm (aY n)).isSome]) rfl look2_hd ?_
 refine ap (ak rfl) rfl rfl ?_
 refine ap (aD rfl rfl) rfl rfl ?_
 refine ap (aD rfl rfl) rfl rfl ?_
 refine bh (t := 25) rfl (fun h6_8 => ?_) (fun h6_8 => ?_)
 refine bx cp rfl rfl (fun b1 => ?_)
 refine aS cp rfl rfl rfl .z rfl rfl rfl rfl ?_
 refine ap (ai rfl) rfl rfl ?_
 refine ab ?_
 refine aj ?_
 refine ao ?_
 refine aa ?_
 refine ap (ak rfl) rfl rfl ?_
 refine ap (bB rfl) rfl rfl ?_
 refine ab ?_
 refine aj ?_
 refine au rfl ?_
 refine aF ?_
 refine aj ?_
 refine ao ?_
 refine aa ?_
 refine ap (ak rfl) rfl rfl ?_
 refine ap (ak rfl) rfl rfl ?_
 refine bX (fun w h => h.f2.f2.two) ?_
 refine cj rfl ent_104 rfl (c_vdrop v hm am (aY n)) (fun o => .z) (List.mem_of_getElem? (i := 0) rfl) (fun s hs => (List.mem_singleton.1 hs) ▸ .head _) (fun o1 => ?_)
 refine bX (fun w h => h.untwo) ?_
 refine ab ?_
 refine aj ?_
 refine ao ?_
 refine aa ?_
 refine ap (ai rfl) rfl rfl ?_
 refine ab ?_
 refine aj ?_
 refine aB ?_
 refine aG (ts := [4]) rfl rfl rfl (fun w hw => ?_)
 obtain ⟨h1, h2, h3⟩ := (hw.weak (.cons_cons _ (.cons_cons _ (.cons _ .slnil))) (fun s hs => hs)).f1.f1.two.uc
 focus first
   | (have hE : dh hm am n = (2, hm, am) := if_pos h3_1
      rw [hE]
      exact ⟨(), rfl, h1, h2, h3⟩)
   | (have hE : dh hm am n = (5, hm, am) := by rw [dh, if_neg (by rw [h3_1]; decide), if_pos h6_8]
      rw [hE]
      exact ⟨(), rfl, h1, h2, h3⟩)
   | (have hE : dh hm am n = (0, gh hm am (aY n)) := by rw [dh, if_neg (by rw [h3_1]; decide), if_neg (by rw [h6_8]; decide)]
      rw [hE]
      exact ⟨(), rfl, h1, h2, h3⟩)
   | (trace_state; fail)
 refine bx cp rfl rfl (fun b3 => ?_)
 refine aS cp rfl rfl rfl .z rfl rfl rfl rfl ?_
 refine ap (ai rfl) rfl rfl ?_
 refine ab ?_
 refine aj ?_
 refine ao ?_
 refine aa ?_
 refine ap (ak rfl) rfl rfl ?_
 refine ap (bB rfl) rfl rfl ?_
 refine ab ?_
 refine aj ?_
 refine ax rfl ?_
 refine ao ?_
 refine aa ?_
 refine ap (ai rfl) rfl rfl ?_
 refine ab ?_
 refine aj ?_
 refine aB ?_
 refine aw ?_
 refine aG (ts := [4]) rfl rfl rfl (fun w hw => ?_)
 obtain ⟨h1, h2, h3⟩ := (hw.weak (.cons _ (.cons_cons _ (.cons_cons _ .slnil))) (fun s hs => hs)).f1.f1.two.uc
 focus first
   | (have hE : dh hm am n = (2, hm, am) := if_pos h3_1
      rw [hE]
      exact ⟨(), rfl, h1, h2, h3⟩)
   | (have hE : dh hm am n = (5, hm, am) := by rw [dh, if_neg (by rw [h3_1]; decide), if_pos h6_8]
      rw [hE]
      exact ⟨(), rfl, h1, h2, h3⟩)
   | (have hE : dh hm am n = (0, gh hm am (aY n)) := by rw [dh, if_neg (by rw [h3_1]; decide), if_neg (by rw [h6_8]; decide)]
      rw [hE]
      exact ⟨(), rfl, h1, h2, h3⟩)
   | (trace_state; fail)
 refine ap (bB rfl) rfl rfl ?_
 refine ap (ai rfl) rfl rfl ?_
 refine ab ?_
 refine aj ?_
 refine ax rfl ?_
 refine ao ?_
 refine aa ?_
 refine ap (ai rfl) rfl rfl ?_
 refine ab ?_
 refine aj ?_
 refine aB ?_
 refine aM ?_
 refine aw ?_
 refine aG (ts := [4]) rfl rfl rfl (fun w hw => ?_)
 obtain ⟨h1, h2, h3⟩ := (hw.weak (.cons_cons _ (.cons_cons _ .slnil)) (fun s hs => hs)).f1.f1.two.uc
 focus first
   | (have hE : dh hm am n = (2, hm, am) := if_pos h3_1
      rw [hE]
      exact ⟨(), rfl, h1, h2, h3⟩)
   | (have hE : dh hm am n = (5, hm, am) := by rw [dh, if_neg (by rw [h3_1]; decide), if_pos h6_8]
      rw [hE]
      exact ⟨(), rfl, h1, h2, h3⟩)
   | (have hE : dh hm am n = (0, gh hm am (aY n)) := by rw [dh, if_neg (by rw [h3_1]; decide), if_neg (by rw [h6_8]; decide)]
      rw [hE]
      exact ⟨(), rfl, h1, h2, h3⟩)
   | (trace_state; fail)

theorem fq {n : aK} {slots : Nat} {e : Int} (h : e ∈ c7 n slots) : 0 ≤ e ∧ e < slots := by
  obtain ⟨k, hk, rfl⟩ := List.mem_iff_getElem.1 h
  rw [cv] at hk
  have h1 := d9 n slots k hk
  rw [List.getD_eq_getElem?_getD, List.getElem?_eq_getElem (by rw [cv]; exact hk)] at h1
  have h2 := atH_rng (n := n) (slots := slots) (by omega) k
  have h3 : (c7 n slots)[k]'(by rw [cv]; exact hk) = atH n slots k := h1
  rw [h3]; exact h2
theorem atR_lo (r : Rg) (i : Int) : 0 ≤ (atR r i).1.lo := by
  unfold atR
  split
  · exact ad0_lo
  · exact addA_lo _ _

set_option maxRecDepth 100000 in
set_option maxHeartbeats 4000000 in
theorem c_vGive (v : Vp) (hm : Hm) (am : Am) (n : aK) (hv : VOk v) (hn : n.length ≤ 1000000000) (hml : hm.length ≤ 1000000) : UC Tryz.prog 34 #[.pointer (some ⟨v.b, 0, none⟩), .string (ba n)] [Ch.row v.b (vpC v) 146, Ch.rd v.A 4 dX v.res] (vmC v hm am) (α := Unit) (fun o => .tuple #[.agg (dP (bl v hm am n).1.1).toArray, .int .i64 (bl v hm am n).1.2]) (fun o => vmC v (bl v hm am n).2.1 (bl v hm am n).2.2) := by
 refine uc_of_WM (args := [.pointer (some ⟨v.b, 0, none⟩), .string (ba n)]) 81 Tryz.func34 rfl rfl rfl (fun w0 => ?_)
 refine cH (fun w h => h.untwo) ?_
 refine ao ?_
 refine aa ?_
 refine bu rfl rfl rfl (fun b1 => ?_)
 refine bu rfl rfl rfl (fun b2 => ?_)
 refine bx aQ rfl rfl (fun b3 => ?_)
 refine bx du rfl rfl (fun b4 => ?_)
 refine ab ?_
 refine aj ?_
 refine ao ?_
 refine aP ?_
 refine ao ?_
 refine aa ?_
 refine ap (aH 3 eb rfl rfl rfl) rfl rfl ?_
 refine ap (fc Tryz.underlying68 rfl rfl) rfl rfl ?_
 refine bT (t := 14) (.bool false) rfl (congrArg Value.bool rfl) ?_
 refine ap (ai rfl) rfl rfl ?_
 refine ab ?_
 refine aj ?_
 refine au rfl ?_
 refine ao ?_
 refine aa ?_
 refine ap (aH 2 bQ rfl rfl rfl) rfl rfl ?_
 refine aU rfl ent_95 (c_vhost _) rfl ?_
 refine bh (t := 18) rfl (fun h3_1 => ?_) (fun h3_1 => ?_)
 refine ap (bB rfl) rfl rfl ?_
 refine ap (ai rfl) rfl rfl ?_
 refine ab ?_
 refine aj ?_
 refine au rfl ?_
 refine aF ?_
 refine bw ?_
 refine aj ?_
 refine ao ?_
 refine aa ?_
 refine ap (aH 2 bQ rfl rfl rfl) rfl rfl ?_
 refine aU rfl ent_73 (dI _ (by omega)) rfl ?_
 refine bx bQ rfl rfl (fun b5 => ?_)
 refine aS bQ rfl rfl rfl .z rfl rfl rfl rfl ?_
 refine ab ?_
 refine aj ?_
 refine ao ?_
 refine ao ?_
 refine w_drawV 12 mixed ?_
 refine a7 (i := 0) rfl ah (aH 4 eb rfl rfl rfl) av av rfl (ae (ae aq)) (by kernel_rfl) rfl ?_
 refine a7 (i := 1) rfl ah (aX rfl) av av rfl (ae (ae aq)) (by kernel_rfl) rfl ?_
 refine a7 (i := 2) rfl ah (aA cX rfl) av av rfl (ae (ae aq)) (by kernel_rfl) rfl ?_
 refine a7 (i := 3) rfl ah (bo 0 dJ rfl rfl rfl) av av rfl (ae (ae aq)) (by kernel_rfl) rfl ?_
 refine a7 (i := 4) rfl ah (aH 0 bQ rfl rfl rfl) av av rfl (ae (ae aq)) (by kernel_rfl) rfl ?_
 refine v_many (js := [5, 9]) (by kernel_rfl) rfl ?_
 refine wrv_cons (i := 5) rfl rfl ?_ ?_
 refine ap (fx Tryz.underlying143 (cN Tryz.underlying26) cp rfl rfl (fun w hw => hw.own _ (List.mem_of_getElem? (i := 5) rfl))) rfl rfl ?_
 refine ab ?_
 refine ct av ?_
 refine wv_as (t := 29) (.tuple #[.agg (hdC ((cD hm (aY n)).getD fV)).toArray, .bool (cD hm (aY n)).isSome]) rfl look2_hd ?_
 refine a7 (i := 6) rfl ah (ak rfl) av av rfl (ae (ae aq)) (by kernel_rfl) rfl ?_
 refine a7 (i := 7) rfl ah (aD rfl rfl) av av rfl (ae (ae aq)) (by kernel_rfl) rfl ?_
 refine a7 (i := 8) rfl ah (aD rfl rfl) av av rfl (ae (ae aq)) (by kernel_rfl) rfl ?_
 refine wv_splitb (t := 31) rfl (fun h6_8 => ?_) (fun h6_8 => ?_)
 refine dp (i := 9) rfl (by kernel_rfl) rfl ?_
 refine bx cp rfl rfl (fun b6 => ?_)
 refine ab ?_
 refine ct (cE 1) ?_
 refine dp (i := 10) rfl (by kernel_rfl) rfl ?_
 refine aS cp rfl rfl rfl .z rfl rfl rfl rfl ?_
 refine ab ?_
 refine ct (cE 1) ?_
 refine a7 (i := 11) rfl ah (ai rfl) (cE 1) av rfl (ae (ae aq)) (by kernel_rfl) rfl ?_
 refine fb (by kernel_rfl) ?_
 refine aj ?_
 refine ao ?_
 refine aa ?_
 refine ap (ak rfl) rfl rfl ?_
 refine ab ?_
 refine aj ?_
 refine ax rfl ?_
 refine ao ?_
 refine aa ?_
 refine ap (aA fa_46_1 rfl) rfl rfl ?_
 refine ap (aJ 0 aQ rfl rfl rfl rfl) rfl rfl ?_
 refine aS aQ rfl rfl rfl (.s (.s (.s (.z)))) rfl rfl rfl rfl ?_
 refine aS du rfl rfl rfl (.s (.s (.z))) rfl rfl rfl rfl ?_
 refine ab ?_
 refine aj ?_
 refine aB ?_
 refine aw ?_
 refine eB ?_
 refine dy (rs := [.cell 4 29, .cell 5 40]) rfl (bA 3 aQ rfl rfl rfl rfl (dQ 2 du rfl rfl rfl bS)) (fun w hw => ?_)
 obtain ⟨h1, h2, h3⟩ := (hw.weak (.cons _ (.cons _ (.cons _ (.cons _ (.cons _ (.cons _ (.cons_cons _ (.cons_cons _ .slnil)))))))) (fun s hs => hs)).f1.f1.two.uc
 focus first
   | (have hE := cY (v := v) (hm := hm) (am := am) h3_1
      rw [hE]
      exact ⟨(), rfl, h1, h2, h3⟩)
   | (have hE := cr (v := v) (am := am) h3_1 h6_8
      rw [hE]
      exact ⟨(), rfl, h1, h2, h3⟩)
   | (have hE := cn (am := am) h3_1 h6_8 h9_2
      rw [hE]
      exact ⟨(), rfl, h1, h2, h3⟩)
   | (have hE := bG (am := am) h3_1 h6_8 h9_2 (show bq v am n = none from hpf)
      rw [hE]
      exact ⟨(), rfl, h1, h2, h3⟩)
   | (have hq : bq v am n = g := by
        rw [bq, hxs, List.find?_append, ← hq9]
        cases g with
        | none => cases hqs
        | some y => rfl
      have hE := bG (am := am) h3_1 h6_8 h9_2 hq
      rw [hqs, if_pos rfl] at hE
      rw [hE]
      exact ⟨(), rfl, h1, h2, h3⟩)
   | (trace_state; fail)
 refine dp (i := 9) rfl (by kernel_rfl) rfl ?_
 refine bx cp rfl rfl (fun b7 => ?_)
 refine ab ?_
 refine ct (cE 1) ?_
 refine dp (i := 10) rfl (by kernel_rfl) rfl ?_
 refine aS cp rfl rfl rfl .z rfl rfl rfl rfl ?_
 refine ab ?_
 refine ct (cE 1) ?_
 refine a7 (i := 11) rfl ah (ai rfl) (cE 1) av rfl (ae (ae aq)) (by kernel_rfl) rfl ?_
 refine fb (by kernel_rfl) ?_
 refine aj ?_
 refine ao ?_
 refine aa ?_
 refine ap (ak rfl) rfl rfl ?_
 refine ab ?_
 refine aj ?_
 refine au rfl ?_
 refine aF ?_
 refine aj ?_
 refine ao ?_
 refine ao ?_
 refine aa ?_
 refine ap (aH 5 eb rfl rfl rfl) rfl rfl ?_
 refine bi rfl ent_35 rfl (c_vFree v hm hv hml) (fun w hw => (aI (cL 0 rfl hw) (aI (eW 6 rfl hw) a8))) ?_
 refine ap (eT rfl rfl) rfl rfl ?_
 refine aC (t := 37) rfl (fun h9_2 => ?_) (fun h9_2 => ?_)
 refine ab ?_
 refine aj ?_
 refine ax rfl ?_
 refine ao ?_
 refine aa ?_
 refine ap (bD rfl (eR)) rfl rfl ?_
 refine aS aQ rfl rfl rfl (.s (.s (.s (.z)))) rfl rfl rfl rfl ?_
 refine aS du rfl rfl rfl (.s (.s (.z))) rfl rfl rfl rfl ?_
 refine ab ?_
 refine aj ?_
 refine aB ?_
 refine aw ?_
 refine eB ?_
 refine dy (rs := [.cell 4 29, .cell 5 40]) rfl (bA 3 aQ rfl rfl rfl rfl (dQ 2 du rfl rfl rfl bS)) (fun w hw => ?_)
 obtain ⟨h1, h2, h3⟩ := (hw.weak (.cons _ (.cons _ (.cons _ (.cons _ (.cons _ (.cons _ (.cons_cons _ (.cons_cons _ .slnil)))))))) (fun s hs => hs)).f1.f1.two.uc
 focus first
   | (have hE := cY (v := v) (hm := hm) (am := am) h3_1
      rw [hE]
      exact ⟨(), rfl, h1, h2, h3⟩)
   | (have hE := cr (v := v) (am := am) h3_1 h6_8
      rw [hE]
      exact ⟨(), rfl, h1, h2, h3⟩)
   | (have hE := cn (am := am) h3_1 h6_8 h9_2
      rw [hE]
      exact ⟨(), rfl, h1, h2, h3⟩)
   | (have hE := bG (am := am) h3_1 h6_8 h9_2 (show bq v am n = none from hpf)
      rw [hE]
      exact ⟨(), rfl, h1, h2, h3⟩)
   | (have hq : bq v am n = g := by
        rw [bq, hxs, List.find?_append, ← hq9]
        cases g with
        | none => cases hqs
        | some y => rfl
      have hE := bG (am := am) h3_1 h6_8 h9_2 hq
      rw [hqs, if_pos rfl] at hE
      rw [hE]
      exact ⟨(), rfl, h1, h2, h3⟩)
   | (trace_state; fail)
 refine ab ?_
 refine aj ?_
 refine au rfl ?_
 refine aF ?_
 refine aj ?_
 refine ao ?_
 refine ao ?_
 have hsl := eQ v.rg
 refine w_drawV 8 mixed ?_
 refine a7 (i := 0) rfl ah (aH 4 bQ rfl rfl rfl) av av rfl (ae (ae aq)) (by kernel_rfl) rfl ?_
 refine a7 (i := 1) rfl ah (aH 5 eb rfl rfl rfl) av av rfl (ae (ae aq)) (by kernel_rfl) rfl ?_
 refine a7 (i := 2) rfl ah (aX rfl) av av rfl (ae (ae aq)) (by kernel_rfl) rfl ?_
 refine a7 (i := 3) rfl ah (aA eE rfl) av av rfl (ae (ae aq)) (by kernel_rfl) rfl ?_
 refine a7 (i := 4) rfl ah (aA eH rfl) av av rfl (ae (ae aq)) (by kernel_rfl) rfl ?_
 refine a7 (i := 5) rfl ah (cR 0 cw rfl rfl rfl rfl) av av rfl (ae (ae aq)) (by kernel_rfl) rfl ?_
 refine dp (i := 6) rfl (by kernel_rfl) rfl ?_
 refine aU rfl ent_97 (c_rSize v.rg hv.rg.lo.1) rfl ?_
 refine ab ?_
 refine ct av ?_
 refine dp (i := 7) rfl (by kernel_rfl) rfl ?_
 refine o_callr2 rfl ent_96 rfl (gm n (bE v.rg)) (fun w hw => a8) (fun ⟨p7, q7⟩ => ?_)
 refine ab ?_
 refine ct (cE 2) ?_
 refine wv_heap (fun w h => h.freeze.freeze) ?_
 refine fb (by kernel_rfl) ?_
 refine aj ?_
 refine aP ?_
 refine cH (fun w h => h.weak (.cons _ (.cons_cons _ (.cons_cons _ (.cons_cons _ (.cons_cons _ (.cons_cons _ (.cons_cons _ (.cons_cons _ .slnil)))))))) (fun s hs => hs)) ?_
 refine w_range (σ := Option Int) (fun pre g => g = none ∧ pre.find? (fun i => dw v.res am (atR v.rg i).1) = none) (fun c pre g => c = .ret ∧ g = pre.find? (fun i => dw v.res am (atR v.rg i).1) ∧ g.isSome = true) (fun g => [Ch.row b5 [.string (ba (aY n))] 26, Ch.row b4 [.int .i64 0] 40, Ch.row b3 (dP (adO v g)) 29, Ch.row b2 [.string (ba n)] 26, Ch.row b1 [.pointer (some ⟨v.b, 0, none⟩)] 68, Ch.mp v.rh bM ck (hmO v hm n g), Ch.mp v.ra eh bM (amO v am n g)]) (none) rfl rfl ent_164 (fF n (bE v.rg) p7 q7 hn (by omega) (by omega)) (List.forall_mem_cons.2 ⟨.head _, List.forall_mem_cons.2 ⟨.tail _ (.head _), nofun⟩⟩) rfl (fun _ => rfl) (⟨rfl, rfl⟩) rfl (fun pre e post g hxs hI lr D r hr okb wb => ?_) (fun g D0 hI => ?_) (fun c pre post g D0 hxs hI => ?_)
 obtain ⟨rfl, hpf⟩ := hI
 have her := fq (n := n) (slots := bE v.rg) (e := e) (by rw [hxs]; simp)
 refine aa ?_
 refine ap (ai rfl) rfl rfl ?_
 refine ab ?_
 refine fh rfl hr .z ?_
 refine aP ?_
 refine ao ?_
 refine aa ?_
 refine ap (aH 6 eb rfl rfl rfl) rfl rfl ?_
 refine ap (aX rfl) rfl rfl ?_
 refine ap (aA eE rfl) rfl rfl ?_
 refine ap (aA eH rfl) rfl rfl ?_
 refine ap (cR 2 cw rfl rfl rfl rfl) rfl rfl ?_
 refine ap (ak rfl) rfl rfl ?_
 refine bi rfl ent_98 rfl (c_rAt v.rg e hv.rg (by omega)) (fun w hw => a8) ?_
 refine ap (ak rfl) rfl rfl ?_
 refine ap (aD rfl rfl) rfl rfl ?_
 refine ap (aD rfl rfl) rfl rfl ?_
 refine bx aQ rfl rfl (fun b9 => ?_)
 refine aS aQ rfl rfl rfl .z rfl rfl rfl rfl ?_
 refine ap (ai rfl) rfl rfl ?_
 refine ab ?_
 refine aj ?_
 refine ao ?_
 refine aa ?_
 refine ap (aH 7 eb rfl rfl rfl) rfl rfl ?_
 refine ap (aJ 0 aQ rfl rfl rfl rfl) rfl rfl ?_
 refine bi rfl ent_99 rfl (c_vfree v am (atR v.rg e).1 hv (atR_lo _ _)) (fun w hw => (aI (cL 2 rfl hw) (aI (cL 3 rfl hw) (aI (eW 9 rfl hw) a8)))) ?_
 refine bh (t := 60) rfl (fun h14_2 => ?_) (fun h14_2 => ?_)
 refine ab ?_
 refine aj ?_
 refine ax rfl ?_
 refine ao ?_
 refine w_drawVA 20 mixed (fun w h => ((h.anymp (.s (.s (.s (.s (.s (.s (.s (.s (.z)))))))))).anymp (.s (.s (.s (.s (.s (.s (.s (.s (.s (.z)))))))))))) ?_
 refine a7 (i := 0) rfl ah (aH 7 eb rfl rfl rfl) (fun w h => ((h.anymp (.s (.s (.s (.s (.s (.s (.s (.s (.z)))))))))).anymp (.s (.s (.s (.s (.s (.s (.s (.s (.s (.z)))))))))))) av rfl (ae (aO cc)) (by kernel_rfl) rfl ?_
 refine a7 (i := 1) rfl ah (aX rfl) (fun w h => ((h.anymp (.s (.s (.s (.s (.s (.s (.s (.s (.z)))))))))).anymp (.s (.s (.s (.s (.s (.s (.s (.s (.s (.z)))))))))))) av rfl (ae (aO cc)) (by kernel_rfl) rfl ?_
 refine a7 (i := 2) rfl ah (aA cX rfl) (fun w h => ((h.anymp (.s (.s (.s (.s (.s (.s (.s (.s (.z)))))))))).anymp (.s (.s (.s (.s (.s (.s (.s (.s (.s (.z)))))))))))) av rfl (ae (aO cc)) (by kernel_rfl) rfl ?_
 refine a7 (i := 3) rfl ah (bo 2 dJ rfl rfl rfl) (fun w h => ((h.anymp (.s (.s (.s (.s (.s (.s (.s (.s (.z)))))))))).anymp (.s (.s (.s (.s (.s (.s (.s (.s (.s (.z)))))))))))) av rfl (ae (aO cc)) (by kernel_rfl) rfl ?_
 refine a7 (i := 4) rfl ah (aH 3 bQ rfl rfl rfl) (fun w h => ((h.anymp (.s (.s (.s (.s (.s (.s (.s (.s (.z)))))))))).anymp (.s (.s (.s (.s (.s (.s (.s (.s (.s (.z)))))))))))) av rfl (ae (aO cc)) (by kernel_rfl) rfl ?_
 refine a7 (i := 5) rfl ah (aH 7 eb rfl rfl rfl) (fun w h => ((h.anymp (.s (.s (.s (.s (.s (.s (.s (.s (.z)))))))))).anymp (.s (.s (.s (.s (.s (.s (.s (.s (.s (.z)))))))))))) av rfl (ae (aO cc)) (by kernel_rfl) rfl ?_
 refine a7 (i := 6) rfl ah (aX rfl) (fun w h => ((h.anymp (.s (.s (.s (.s (.s (.s (.s (.s (.z)))))))))).anymp (.s (.s (.s (.s (.s (.s (.s (.s (.s (.z)))))))))))) av rfl (ae (aO cc)) (by kernel_rfl) rfl ?_
 refine a7 (i := 7) rfl ah (aA eZ rfl) (fun w h => ((h.anymp (.s (.s (.s (.s (.s (.s (.s (.s (.z)))))))))).anymp (.s (.s (.s (.s (.s (.s (.s (.s (.s (.z)))))))))))) av rfl (ae (aO cc)) (by kernel_rfl) rfl ?_
 refine a7 (i := 8) rfl ah (bo 2 ty_144 rfl rfl rfl) (fun w h => ((h.anymp (.s (.s (.s (.s (.s (.s (.s (.s (.z)))))))))).anymp (.s (.s (.s (.s (.s (.s (.s (.s (.s (.z)))))))))))) av rfl (ae (aO cc)) (by kernel_rfl) rfl ?_
 refine a7 (i := 9) rfl ah (aJ 0 aQ rfl rfl rfl rfl) (fun w h => ((h.anymp (.s (.s (.s (.s (.s (.s (.s (.s (.z)))))))))).anymp (.s (.s (.s (.s (.s (.s (.s (.s (.s (.z)))))))))))) av rfl (ae (aO cc)) (by kernel_rfl) rfl ?_
 refine a7 (i := 10) rfl ah (aH 6 bQ rfl rfl rfl) (fun w h => ((h.anymp (.s (.s (.s (.s (.s (.s (.s (.s (.z)))))))))).anymp (.s (.s (.s (.s (.s (.s (.s (.s (.s (.z)))))))))))) av rfl (ae (aO cc)) (by kernel_rfl) rfl ?_
 refine a7 (i := 11) rfl ah (aJ 0 aQ rfl rfl rfl rfl) (fun w h => ((h.anymp (.s (.s (.s (.s (.s (.s (.s (.s (.z)))))))))).anymp (.s (.s (.s (.s (.s (.s (.s (.s (.s (.z)))))))))))) av rfl (ae (aO cc)) (by kernel_rfl) rfl ?_
 refine a7 (i := 12) rfl ah (bD rfl (bu_46_0_1 _ _ _ _)) (fun w h => ((h.anymp (.s (.s (.s (.s (.s (.s (.s (.s (.z)))))))))).anymp (.s (.s (.s (.s (.s (.s (.s (.s (.s (.z)))))))))))) av rfl (ae (aO cc)) (by kernel_rfl) rfl ?_
 refine a7 (i := 13) rfl ah (aH 3 bQ rfl rfl rfl) (fun w h => ((h.anymp (.s (.s (.s (.s (.s (.s (.s (.s (.z)))))))))).anymp (.s (.s (.s (.s (.s (.s (.s (.s (.s (.z)))))))))))) av rfl (ae (aO cc)) (by kernel_rfl) rfl ?_
 refine dp (i := 14) rfl (by kernel_rfl) rfl ?_
 refine gn (encK := bM) (encV := ck) Tryz.underlying143 (cN Tryz.underlying26) cp rfl rfl (eI h6_8) (fun st => (.s (.s (.s (.s (.s (.s (.s (.s (.z)))))))))) rfl (fun st9 => ?_)
 refine ab ?_
 refine ct (fun w h => ((h.anymq (v0 := fV) rfl (.s (.s (.s (.s (.s (.s (.s (.s (.z)))))))))).anymp (.s (.s (.s (.s (.s (.s (.s (.s (.s (.z)))))))))))) ?_
 refine a7 (i := 15) rfl ah (aD rfl rfl) (fun w h => ((h.anymq (v0 := fV) rfl (.s (.s (.s (.s (.s (.s (.s (.s (.z)))))))))).anymp (.s (.s (.s (.s (.s (.s (.s (.s (.s (.z)))))))))))) av rfl (ae (aO cc)) (by kernel_rfl) rfl ?_
 refine dp (i := 16) rfl (by kernel_rfl) rfl ?_
 refine o_entSt (encK := bM) (encV := ck) (v := (⟨n, (atR v.rg e).1⟩ : Hd)) rfl rfl rfl (.s (.s (.s (.s (.s (.s (.s (.s (.z))))))))) ?_
 refine ab ?_
 refine ct (fun w h => ((h.anymp (.s (.s (.s (.s (.s (.s (.s (.s (.z)))))))))).anymp (.s (.s (.s (.s (.s (.s (.s (.s (.s (.z)))))))))))) ?_
 refine dp (i := 17) rfl (by kernel_rfl) rfl ?_
 refine gn (encK := eh) (encV := bM) Tryz.underlying144 keyl_ad bQ rfl rfl (fR h14_2) (fun st => (.s (.s (.s (.s (.s (.s (.s (.s (.s (.z))))))))))) rfl (fun st10 => ?_)
 refine ab ?_
 refine ct (fun w h => ((h.anymp (.s (.s (.s (.s (.s (.s (.s (.s (.z)))))))))).anymq (v0 := ([] : aK)) rfl (.s (.s (.s (.s (.s (.s (.s (.s (.s (.z)))))))))))) ?_
 refine a7 (i := 18) rfl ah (aD rfl rfl) (fun w h => ((h.anymp (.s (.s (.s (.s (.s (.s (.s (.s (.z)))))))))).anymq (v0 := ([] : aK)) rfl (.s (.s (.s (.s (.s (.s (.s (.s (.s (.z)))))))))))) av rfl (ae (aO cc)) (by kernel_rfl) rfl ?_
 refine dp (i := 19) rfl (by kernel_rfl) rfl ?_
 refine o_entSt (encK := eh) (encV := bM) (v := (aY n)) rfl rfl rfl (.s (.s (.s (.s (.s (.s (.s (.s (.s (.z)))))))))) ?_
 refine ab ?_
 refine ct (fun w h => ((h.anymp (.s (.s (.s (.s (.s (.s (.s (.s (.z)))))))))).anymp (.s (.s (.s (.s (.s (.s (.s (.s (.s (.z)))))))))))) ?_
 refine fb (by kernel_rfl) ?_
 refine aj ?_
 refine ao ?_
 refine aa ?_
 refine ap (aJ 0 aQ rfl rfl rfl rfl) rfl rfl ?_
 refine aS aQ rfl rfl rfl (.s (.s (.s (.s (.s (.z)))))) rfl rfl rfl rfl ?_
 refine aS du rfl rfl rfl (.s (.s (.s (.s (.z))))) rfl rfl rfl rfl ?_
 refine ab ?_
 refine aj ?_
 refine aB ?_
 refine aM ?_
 refine e_rret ((some e)) ?_ (cE 1)
 exact ⟨rfl, by rw [List.find?_append, hpf, List.find?_cons_of_pos (p := (fun i => dw v.res am (atR v.rg i).1)) h14_2]; rfl, rfl⟩
 refine ab ?_
 refine aj ?_
 refine au rfl ?_
 refine aF ?_
 refine bw ?_
 refine fN (none) ?_ (cE 1)
 exact ⟨rfl, by rw [List.find?_append, hpf, List.find?_cons_of_neg (by rw [h14_2]; decide)]; rfl⟩
 obtain ⟨rfl, hpf⟩ := hI
 refine bw ?_
 refine aj ?_
 refine ao ?_
 refine aa ?_
 refine ap (bD rfl (eR)) rfl rfl ?_
 refine aS aQ rfl rfl rfl (.s (.s (.s (.z)))) rfl rfl rfl rfl ?_
 refine aS du rfl rfl rfl (.s (.s (.z))) rfl rfl rfl rfl ?_
 refine ab ?_
 refine aj ?_
 refine aB ?_
 refine eB ?_
 refine ec .z ?_
 refine dy (rs := [.cell 4 29, .cell 5 40]) rfl (bA 3 aQ rfl rfl rfl rfl (dQ 2 du rfl rfl rfl bS)) (fun w hw => ?_)
 obtain ⟨h1, h2, h3⟩ := (hw.weak (.cons _ (.cons _ (.cons _ (.cons _ (.cons _ (.cons _ (.cons_cons _ (.cons_cons _ .slnil)))))))) (fun s hs => hs)).f1.f1.two.uc
 focus first
   | (have hE := cY (v := v) (hm := hm) (am := am) h3_1
      rw [hE]
      exact ⟨(), rfl, h1, h2, h3⟩)
   | (have hE := cr (v := v) (am := am) h3_1 h6_8
      rw [hE]
      exact ⟨(), rfl, h1, h2, h3⟩)
   | (have hE := cn (am := am) h3_1 h6_8 h9_2
      rw [hE]
      exact ⟨(), rfl, h1, h2, h3⟩)
   | (have hE := bG (am := am) h3_1 h6_8 h9_2 (show bq v am n = none from hpf)
      rw [hE]
      exact ⟨(), rfl, h1, h2, h3⟩)
   | (have hq : bq v am n = g := by
        rw [bq, hxs, List.find?_append, ← hq9]
        cases g with
        | none => cases hqs
        | some y => rfl
      have hE := bG (am := am) h3_1 h6_8 h9_2 hq
      rw [hqs, if_pos rfl] at hE
      rw [hE]
      exact ⟨(), rfl, h1, h2, h3⟩)
   | (trace_state; fail)
 obtain ⟨rfl, hq9, hqs⟩ := hI
 refine aB ?_
 refine aM ?_
 refine aw ?_
 refine eB ?_
 refine ec .z ?_
 refine dy (rs := [.cell 4 29, .cell 5 40]) rfl (bA 3 aQ rfl rfl rfl rfl (dQ 2 du rfl rfl rfl bS)) (fun w hw => ?_)
 obtain ⟨h1, h2, h3⟩ := (hw.weak (.cons _ (.cons _ (.cons _ (.cons _ (.cons _ (.cons _ (.cons_cons _ (.cons_cons _ .slnil)))))))) (fun s hs => hs)).f1.f1.two.uc
 focus first
   | (have hE := cY (v := v) (hm := hm) (am := am) h3_1
      rw [hE]
      exact ⟨(), rfl, h1, h2, h3⟩)
   | (have hE := cr (v := v) (am := am) h3_1 h6_8
      rw [hE]
      exact ⟨(), rfl, h1, h2, h3⟩)
   | (have hE := cn (am := am) h3_1 h6_8 h9_2
      rw [hE]
      exact ⟨(), rfl, h1, h2, h3⟩)
   | (have hE := bG (am := am) h3_1 h6_8 h9_2 (show bq v am n = none from hpf)
      rw [hE]
      exact ⟨(), rfl, h1, h2, h3⟩)
   | (have hq : bq v am n = g := by
        rw [bq, hxs, List.find?_append, ← hq9]
        cases g with
        | none => cases hqs
        | some y => rfl
      have hE := bG (am := am) h3_1 h6_8 h9_2 hq
      rw [hqs, if_pos rfl] at hE
      rw [hE]
      exact ⟨(), rfl, h1, h2, h3⟩)
   | (trace_state; fail)
 refine wrv_cons (i := 9) rfl rfl ?_ ?_
 refine bx cp rfl rfl (fun b12 => ?_)
 refine ab ?_
 refine ct (cE 1) ?_
 refine dp (i := 5) rfl (by kernel_rfl) rfl ?_
 refine ap (fx Tryz.underlying143 (cN Tryz.underlying26) cp rfl rfl (fun w hw => hw.own _ (List.mem_of_getElem? (i := 6) rfl))) rfl rfl ?_
 refine ab ?_
 refine ct (cE 1) ?_
 refine wv_as (t := 29) (.tuple #[.agg (hdC ((cD hm (aY n)).getD fV)).toArray, .bool (cD hm (aY n)).isSome]) rfl look2_hd ?_
 refine a7 (i := 6) rfl ah (ak rfl) (cE 1) av rfl (ae (ae aq)) (by kernel_rfl) rfl ?_
 refine a7 (i := 7) rfl ah (aD rfl rfl) (cE 1) av rfl (ae (ae aq)) (by kernel_rfl) rfl ?_
 refine a7 (i := 8) rfl ah (aD rfl rfl) (cE 1) av rfl (ae (ae aq)) (by kernel_rfl) rfl ?_
 refine wv_splitb (t := 31) rfl (fun h6_8 => ?_) (fun h6_8 => ?_)
 refine dp (i := 10) rfl (by kernel_rfl) rfl ?_
 refine aS cp rfl rfl rfl .z rfl rfl rfl rfl ?_
 refine ab ?_
 refine ct (cE 1) ?_
 refine a7 (i := 11) rfl ah (ai rfl) (cE 1) av rfl (ae (ae aq)) (by kernel_rfl) rfl ?_
 refine fb (by kernel_rfl) ?_
 refine aj ?_
 refine ao ?_
 refine aa ?_
 refine ap (ak rfl) rfl rfl ?_
 refine ab ?_
 refine aj ?_
 refine ax rfl ?_
 refine ao ?_
 refine aa ?_
 refine ap (aA fa_46_1 rfl) rfl rfl ?_
 refine ap (aJ 0 aQ rfl rfl rfl rfl) rfl rfl ?_
 refine aS aQ rfl rfl rfl (.s (.s (.s (.z)))) rfl rfl rfl rfl ?_
 refine aS du rfl rfl rfl (.s (.s (.z))) rfl rfl rfl rfl ?_
 refine ab ?_
 refine aj ?_
 refine aB ?_
 refine aw ?_
 refine eB ?_
 refine dy (rs := [.cell 4 29, .cell 5 40]) rfl (bA 3 aQ rfl rfl rfl rfl (dQ 2 du rfl rfl rfl bS)) (fun w hw => ?_)
 obtain ⟨h1, h2, h3⟩ := (hw.weak (.cons _ (.cons _ (.cons _ (.cons _ (.cons _ (.cons _ (.cons_cons _ (.cons_cons _ .slnil)))))))) (fun s hs => hs)).f1.f1.two.uc
 focus first
   | (have hE := cY (v := v) (hm := hm) (am := am) h3_1
      rw [hE]
      exact ⟨(), rfl, h1, h2, h3⟩)
   | (have hE := cr (v := v) (am := am) h3_1 h6_8
      rw [hE]
      exact ⟨(), rfl, h1, h2, h3⟩)
   | (have hE := cn (am := am) h3_1 h6_8 h9_2
      rw [hE]
      exact ⟨(), rfl, h1, h2, h3⟩)
   | (have hE := bG (am := am) h3_1 h6_8 h9_2 (show bq v am n = none from hpf)
      rw [hE]
      exact ⟨(), rfl, h1, h2, h3⟩)
   | (have hq : bq v am n = g := by
        rw [bq, hxs, List.find?_append, ← hq9]
        cases g with
        | none => cases hqs
        | some y => rfl
      have hE := bG (am := am) h3_1 h6_8 h9_2 hq
      rw [hqs, if_pos rfl] at hE
      rw [hE]
      exact ⟨(), rfl, h1, h2, h3⟩)
   | (trace_state; fail)
 refine dp (i := 10) rfl (by kernel_rfl) rfl ?_
 refine aS cp rfl rfl rfl .z rfl rfl rfl rfl ?_
 refine ab ?_
 refine ct (cE 1) ?_
 refine a7 (i := 11) rfl ah (ai rfl) (cE 1) av rfl (ae (ae aq)) (by kernel_rfl) rfl ?_
 refine fb (by kernel_rfl) ?_
 refine aj ?_
 refine ao ?_
 refine aa ?_
 refine ap (ak rfl) rfl rfl ?_
 refine ab ?_
 refine aj ?_
 refine au rfl ?_
 refine aF ?_
 refine aj ?_
 refine ao ?_
 refine ao ?_
 refine aa ?_
 refine ap (aH 5 eb rfl rfl rfl) rfl rfl ?_
 refine bi rfl ent_35 rfl (c_vFree v hm hv hml) (fun w hw => (aI (cL 0 rfl hw) (aI (eW 6 rfl hw) a8))) ?_
 refine ap (eT rfl rfl) rfl rfl ?_
 refine aC (t := 37) rfl (fun h9_2 => ?_) (fun h9_2 => ?_)
 refine ab ?_
 refine aj ?_
 refine ax rfl ?_
 refine ao ?_
 refine aa ?_
 refine ap (bD rfl (eR)) rfl rfl ?_
 refine aS aQ rfl rfl rfl (.s (.s (.s (.z)))) rfl rfl rfl rfl ?_
 refine aS du rfl rfl rfl (.s (.s (.z))) rfl rfl rfl rfl ?_
 refine ab ?_
 refine aj ?_
 refine aB ?_
 refine aw ?_
 refine eB ?_
 refine dy (rs := [.cell 4 29, .cell 5 40]) rfl (bA 3 aQ rfl rfl rfl rfl (dQ 2 du rfl rfl rfl bS)) (fun w hw => ?_)
 obtain ⟨h1, h2, h3⟩ := (hw.weak (.cons _ (.cons _ (.cons _ (.cons _ (.cons _ (.cons _ (.cons_cons _ (.cons_cons _ .slnil)))))))) (fun s hs => hs)).f1.f1.two.uc
 focus first
   | (have hE := cY (v := v) (hm := hm) (am := am) h3_1
      rw [hE]
      exact ⟨(), rfl, h1, h2, h3⟩)
   | (have hE := cr (v := v) (am := am) h3_1 h6_8
      rw [hE]
      exact ⟨(), rfl, h1, h2, h3⟩)
   | (have hE := cn (am := am) h3_1 h6_8 h9_2
      rw [hE]
      exact ⟨(), rfl, h1, h2, h3⟩)
   | (have hE := bG (am := am) h3_1 h6_8 h9_2 (show bq v am n = none from hpf)
      rw [hE]
      exact ⟨(), rfl, h1, h2, h3⟩)
   | (have hq : bq v am n = g := by
        rw [bq, hxs, List.find?_append, ← hq9]
        cases g with
        | none => cases hqs
        | some y => rfl
      have hE := bG (am := am) h3_1 h6_8 h9_2 hq
      rw [hqs, if_pos rfl] at hE
      rw [hE]
      exact ⟨(), rfl, h1, h2, h3⟩)
   | (trace_state; fail)
 refine ab ?_
 refine aj ?_
 refine au rfl ?_
 refine aF ?_
 refine aj ?_
 refine ao ?_
 refine ao ?_
 have hsl := eQ v.rg
 refine w_drawV 8 mixed ?_
 refine a7 (i := 0) rfl ah (aH 4 bQ rfl rfl rfl) av av rfl (ae (ae aq)) (by kernel_rfl) rfl ?_
 refine a7 (i := 1) rfl ah (aH 5 eb rfl rfl rfl) av av rfl (ae (ae aq)) (by kernel_rfl) rfl ?_
 refine a7 (i := 2) rfl ah (aX rfl) av av rfl (ae (ae aq)) (by kernel_rfl) rfl ?_
 refine a7 (i := 3) rfl ah (aA eE rfl) av av rfl (ae (ae aq)) (by kernel_rfl) rfl ?_
 refine a7 (i := 4) rfl ah (aA eH rfl) av av rfl (ae (ae aq)) (by kernel_rfl) rfl ?_
 refine a7 (i := 5) rfl ah (cR 0 cw rfl rfl rfl rfl) av av rfl (ae (ae aq)) (by kernel_rfl) rfl ?_
 refine dp (i := 6) rfl (by kernel_rfl) rfl ?_
 refine aU rfl ent_97 (c_rSize v.rg hv.rg.lo.1) rfl ?_
 refine ab ?_
 refine ct av ?_
 refine dp (i := 7) rfl (by kernel_rfl) rfl ?_
 refine o_callr2 rfl ent_96 rfl (gm n (bE v.rg)) (fun w hw => a8) (fun ⟨p12, q12⟩ => ?_)
 refine ab ?_
 refine ct (cE 2) ?_
 refine wv_heap (fun w h => h.freeze.freeze) ?_
 refine fb (by kernel_rfl) ?_
 refine aj ?_
 refine aP ?_
 refine cH (fun w h => h.weak (.cons _ (.cons_cons _ (.cons_cons _ (.cons_cons _ (.cons_cons _ (.cons_cons _ (.cons_cons _ (.cons_cons _ .slnil)))))))) (fun s hs => hs)) ?_
 refine w_range (σ := Option Int) (fun pre g => g = none ∧ pre.find? (fun i => dw v.res am (atR v.rg i).1) = none) (fun c pre g => c = .ret ∧ g = pre.find? (fun i => dw v.res am (atR v.rg i).1) ∧ g.isSome = true) (fun g => [Ch.row b5 [.string (ba (aY n))] 26, Ch.row b4 [.int .i64 0] 40, Ch.row b3 (dP (adO v g)) 29, Ch.row b2 [.string (ba n)] 26, Ch.row b1 [.pointer (some ⟨v.b, 0, none⟩)] 68, Ch.mp v.rh bM ck (hmO v hm n g), Ch.mp v.ra eh bM (amO v am n g)]) (none) rfl rfl ent_164 (fF n (bE v.rg) p12 q12 hn (by omega) (by omega)) (List.forall_mem_cons.2 ⟨.head _, List.forall_mem_cons.2 ⟨.tail _ (.head _), nofun⟩⟩) rfl (fun _ => rfl) (⟨rfl, rfl⟩) rfl (fun pre e post g hxs hI lr D r hr okb wb => ?_) (fun g D0 hI => ?_) (fun c pre post g D0 hxs hI => ?_)
 obtain ⟨rfl, hpf⟩ := hI
 have her := fq (n := n) (slots := bE v.rg) (e := e) (by rw [hxs]; simp)
 refine aa ?_
 refine ap (ai rfl) rfl rfl ?_
 refine ab ?_
 refine fh rfl hr .z ?_
 refine aP ?_
 refine ao ?_
 refine aa ?_
 refine ap (aH 6 eb rfl rfl rfl) rfl rfl ?_
 refine ap (aX rfl) rfl rfl ?_
 refine ap (aA eE rfl) rfl rfl ?_
 refine ap (aA eH rfl) rfl rfl ?_
 refine ap (cR 2 cw rfl rfl rfl rfl) rfl rfl ?_
 refine ap (ak rfl) rfl rfl ?_
 refine bi rfl ent_98 rfl (c_rAt v.rg e hv.rg (by omega)) (fun w hw => a8) ?_
 refine ap (ak rfl) rfl rfl ?_
 refine ap (aD rfl rfl) rfl rfl ?_
 refine ap (aD rfl rfl) rfl rfl ?_
 refine bx aQ rfl rfl (fun b14 => ?_)
 refine aS aQ rfl rfl rfl .z rfl rfl rfl rfl ?_
 refine ap (ai rfl) rfl rfl ?_
 refine ab ?_
 refine aj ?_
 refine ao ?_
 refine aa ?_
 refine ap (aH 7 eb rfl rfl rfl) rfl rfl ?_
 refine ap (aJ 0 aQ rfl rfl rfl rfl) rfl rfl ?_
 refine bi rfl ent_99 rfl (c_vfree v am (atR v.rg e).1 hv (atR_lo _ _)) (fun w hw => (aI (cL 2 rfl hw) (aI (cL 3 rfl hw) (aI (eW 9 rfl hw) a8)))) ?_
 refine bh (t := 60) rfl (fun h14_2 => ?_) (fun h14_2 => ?_)
 refine ab ?_
 refine aj ?_
 refine ax rfl ?_
 refine ao ?_
 refine w_drawVA 20 mixed (fun w h => ((h.anymp (.s (.s (.s (.s (.s (.s (.s (.s (.z)))))))))).anymp (.s (.s (.s (.s (.s (.s (.s (.s (.s (.z)))))))))))) ?_
 refine a7 (i := 0) rfl ah (aH 7 eb rfl rfl rfl) (fun w h => ((h.anymp (.s (.s (.s (.s (.s (.s (.s (.s (.z)))))))))).anymp (.s (.s (.s (.s (.s (.s (.s (.s (.s (.z)))))))))))) av rfl (ae (aO cc)) (by kernel_rfl) rfl ?_
 refine a7 (i := 1) rfl ah (aX rfl) (fun w h => ((h.anymp (.s (.s (.s (.s (.s (.s (.s (.s (.z)))))))))).anymp (.s (.s (.s (.s (.s (.s (.s (.s (.s (.z)))))))))))) av rfl (ae (aO cc)) (by kernel_rfl) rfl ?_
 refine a7 (i := 2) rfl ah (aA cX rfl) (fun w h => ((h.anymp (.s (.s (.s (.s (.s (.s (.s (.s (.z)))))))))).anymp (.s (.s (.s (.s (.s (.s (.s (.s (.s (.z)))))))))))) av rfl (ae (aO cc)) (by kernel_rfl) rfl ?_
 refine a7 (i := 3) rfl ah (bo 2 dJ rfl rfl rfl) (fun w h => ((h.anymp (.s (.s (.s (.s (.s (.s (.s (.s (.z)))))))))).anymp (.s (.s (.s (.s (.s (.s (.s (.s (.s (.z)))))))))))) av rfl (ae (aO cc)) (by kernel_rfl) rfl ?_
 refine a7 (i := 4) rfl ah (aH 3 bQ rfl rfl rfl) (fun w h => ((h.anymp (.s (.s (.s (.s (.s (.s (.s (.s (.z)))))))))).anymp (.s (.s (.s (.s (.s (.s (.s (.s (.s (.z)))))))))))) av rfl (ae (aO cc)) (by kernel_rfl) rfl ?_
 refine a7 (i := 5) rfl ah (aH 7 eb rfl rfl rfl) (fun w h => ((h.anymp (.s (.s (.s (.s (.s (.s (.s (.s (.z)))))))))).anymp (.s (.s (.s (.s (.s (.s (.s (.s (.s (.z)))))))))))) av rfl (ae (aO cc)) (by kernel_rfl) rfl ?_
 refine a7 (i := 6) rfl ah (aX rfl) (fun w h => ((h.anymp (.s (.s (.s (.s (.s (.s (.s (.s (.z)))))))))).anymp (.s (.s (.s (.s (.s (.s (.s (.s (.s (.z)))))))))))) av rfl (ae (aO cc)) (by kernel_rfl) rfl ?_
 refine a7 (i := 7) rfl ah (aA eZ rfl) (fun w h => ((h.anymp (.s (.s (.s (.s (.s (.s (.s (.s (.z)))))))))).anymp (.s (.s (.s (.s (.s (.s (.s (.s (.s (.z)))))))))))) av rfl (ae (aO cc)) (by kernel_rfl) rfl ?_
 refine a7 (i := 8) rfl ah (bo 2 ty_144 rfl rfl rfl) (fun w h => ((h.anymp (.s (.s (.s (.s (.s (.s (.s (.s (.z)))))))))).anymp (.s (.s (.s (.s (.s (.s (.s (.s (.s (.z)))))))))))) av rfl (ae (aO cc)) (by kernel_rfl) rfl ?_
 refine a7 (i := 9) rfl ah (aJ 0 aQ rfl rfl rfl rfl) (fun w h => ((h.anymp (.s (.s (.s (.s (.s (.s (.s (.s (.z)))))))))).anymp (.s (.s (.s (.s (.s (.s (.s (.s (.s (.z)))))))))))) av rfl (ae (aO cc)) (by kernel_rfl) rfl ?_
 refine a7 (i := 10) rfl ah (aH 6 bQ rfl rfl rfl) (fun w h => ((h.anymp (.s (.s (.s (.s (.s (.s (.s (.s (.z)))))))))).anymp (.s (.s (.s (.s (.s (.s (.s (.s (.s (.z)))))))))))) av rfl (ae (aO cc)) (by kernel_rfl) rfl ?_
 refine a7 (i := 11) rfl ah (aJ 0 aQ rfl rfl rfl rfl) (fun w h => ((h.anymp (.s (.s (.s (.s (.s (.s (.s (.s (.z)))))))))).anymp (.s (.s (.s (.s (.s (.s (.s (.s (.s (.z)))))))))))) av rfl (ae (aO cc)) (by kernel_rfl) rfl ?_
 refine a7 (i := 12) rfl ah (bD rfl (bu_46_0_1 _ _ _ _)) (fun w h => ((h.anymp (.s (.s (.s (.s (.s (.s (.s (.s (.z)))))))))).anymp (.s (.s (.s (.s (.s (.s (.s (.s (.s (.z)))))))))))) av rfl (ae (aO cc)) (by kernel_rfl) rfl ?_
 refine a7 (i := 13) rfl ah (aH 3 bQ rfl rfl rfl) (fun w h => ((h.anymp (.s (.s (.s (.s (.s (.s (.s (.s (.z)))))))))).anymp (.s (.s (.s (.s (.s (.s (.s (.s (.s (.z)))))))))))) av rfl (ae (aO cc)) (by kernel_rfl) rfl ?_
 refine dp (i := 14) rfl (by kernel_rfl) rfl ?_
 refine gn (encK := bM) (encV := ck) Tryz.underlying143 (cN Tryz.underlying26) cp rfl rfl (eI h6_8) (fun st => (.s (.s (.s (.s (.s (.s (.s (.s (.z)))))))))) rfl (fun st14 => ?_)
 refine ab ?_
 refine ct (fun w h => ((h.anymq (v0 := fV) rfl (.s (.s (.s (.s (.s (.s (.s (.s (.z)))))))))).anymp (.s (.s (.s (.s (.s (.s (.s (.s (.s (.z)))))))))))) ?_
 refine a7 (i := 15) rfl ah (aD rfl rfl) (fun w h => ((h.anymq (v0 := fV) rfl (.s (.s (.s (.s (.s (.s (.s (.s (.z)))))))))).anymp (.s (.s (.s (.s (.s (.s (.s (.s (.s (.z)))))))))))) av rfl (ae (aO cc)) (by kernel_rfl) rfl ?_
 refine dp (i := 16) rfl (by kernel_rfl) rfl ?_
 refine o_entSt (encK := bM) (encV := ck) (v := (⟨n, (atR v.rg e).1⟩ : Hd)) rfl rfl rfl (.s (.s (.s (.s (.s (.s (.s (.s (.z))))))))) ?_
 refine ab ?_
 refine ct (fun w h => ((h.anymp (.s (.s (.s (.s (.s (.s (.s (.s (.z)))))))))).anymp (.s (.s (.s (.s (.s (.s (.s (.s (.s (.z)))))))))))) ?_
 refine dp (i := 17) rfl (by kernel_rfl) rfl ?_
 refine gn (encK := eh) (encV := bM) Tryz.underlying144 keyl_ad bQ rfl rfl (fR h14_2) (fun st => (.s (.s (.s (.s (.s (.s (.s (.s (.s (.z))))))))))) rfl (fun st15 => ?_)
 refine ab ?_
 refine ct (fun w h => ((h.anymp (.s (.s (.s (.s (.s (.s (.s (.s (.z)))))))))).anymq (v0 := ([] : aK)) rfl (.s (.s (.s (.s (.s (.s (.s (.s (.s (.z)))))))))))) ?_
 refine a7 (i := 18) rfl ah (aD rfl rfl) (fun w h => ((h.anymp (.s (.s (.s (.s (.s (.s (.s (.s (.z)))))))))).anymq (v0 := ([] : aK)) rfl (.s (.s (.s (.s (.s (.s (.s (.s (.s (.z)))))))))))) av rfl (ae (aO cc)) (by kernel_rfl) rfl ?_
 refine dp (i := 19) rfl (by kernel_rfl) rfl ?_
 refine o_entSt (encK := eh) (encV := bM) (v := (aY n)) rfl rfl rfl (.s (.s (.s (.s (.s (.s (.s (.s (.s (.z)))))))))) ?_
 refine ab ?_
 refine ct (fun w h => ((h.anymp (.s (.s (.s (.s (.s (.s (.s (.s (.z)))))))))).anymp (.s (.s (.s (.s (.s (.s (.s (.s (.s (.z)))))))))))) ?_
 refine fb (by kernel_rfl) ?_
 refine aj ?_
 refine ao ?_
 refine aa ?_
 refine ap (aJ 0 aQ rfl rfl rfl rfl) rfl rfl ?_
 refine aS aQ rfl rfl rfl (.s (.s (.s (.s (.s (.z)))))) rfl rfl rfl rfl ?_
 refine aS du rfl rfl rfl (.s (.s (.s (.s (.z))))) rfl rfl rfl rfl ?_
 refine ab ?_
 refine aj ?_
 refine aB ?_
 refine aM ?_
 refine e_rret ((some e)) ?_ (cE 1)
 exact ⟨rfl, by rw [List.find?_append, hpf, List.find?_cons_of_pos (p := (fun i => dw v.res am (atR v.rg i).1)) h14_2]; rfl, rfl⟩
 refine ab ?_
 refine aj ?_
 refine au rfl ?_
 refine aF ?_
 refine bw ?_
 refine fN (none) ?_ (cE 1)
 exact ⟨rfl, by rw [List.find?_append, hpf, List.find?_cons_of_neg (by rw [h14_2]; decide)]; rfl⟩
 obtain ⟨rfl, hpf⟩ := hI
 refine bw ?_
 refine aj ?_
 refine ao ?_
 refine aa ?_
 refine ap (bD rfl (eR)) rfl rfl ?_
 refine aS aQ rfl rfl rfl (.s (.s (.s (.z)))) rfl rfl rfl rfl ?_
 refine aS du rfl rfl rfl (.s (.s (.z))) rfl rfl rfl rfl ?_
 refine ab ?_
 refine aj ?_
 refine aB ?_
 refine eB ?_
 refine ec .z ?_
 refine dy (rs := [.cell 4 29, .cell 5 40]) rfl (bA 3 aQ rfl rfl rfl rfl (dQ 2 du rfl rfl rfl bS)) (fun w hw => ?_)
 obtain ⟨h1, h2, h3⟩ := (hw.weak (.cons _ (.cons _ (.cons _ (.cons _ (.cons _ (.cons _ (.cons_cons _ (.cons_cons _ .slnil)))))))) (fun s hs => hs)).f1.f1.two.uc
 focus first
   | (have hE := cY (v := v) (hm := hm) (am := am) h3_1
      rw [hE]
      exact ⟨(), rfl, h1, h2, h3⟩)
   | (have hE := cr (v := v) (am := am) h3_1 h6_8
      rw [hE]
      exact ⟨(), rfl, h1, h2, h3⟩)
   | (have hE := cn (am := am) h3_1 h6_8 h9_2
      rw [hE]
      exact ⟨(), rfl, h1, h2, h3⟩)
   | (have hE := bG (am := am) h3_1 h6_8 h9_2 (show bq v am n = none from hpf)
      rw [hE]
      exact ⟨(), rfl, h1, h2, h3⟩)
   | (have hq : bq v am n = g := by
        rw [bq, hxs, List.find?_append, ← hq9]
        cases g with
        | none => cases hqs
        | some y => rfl
      have hE := bG (am := am) h3_1 h6_8 h9_2 hq
      rw [hqs, if_pos rfl] at hE
      rw [hE]
      exact ⟨(), rfl, h1, h2, h3⟩)
   | (trace_state; fail)
 obtain ⟨rfl, hq9, hqs⟩ := hI
 refine aB ?_
 refine aM ?_
 refine aw ?_
 refine eB ?_
 refine ec .z ?_
 refine dy (rs := [.cell 4 29, .cell 5 40]) rfl (bA 3 aQ rfl rfl rfl rfl (dQ 2 du rfl rfl rfl bS)) (fun w hw => ?_)
 obtain ⟨h1, h2, h3⟩ := (hw.weak (.cons _ (.cons _ (.cons _ (.cons _ (.cons _ (.cons _ (.cons_cons _ (.cons_cons _ .slnil)))))))) (fun s hs => hs)).f1.f1.two.uc
 focus first
   | (have hE := cY (v := v) (hm := hm) (am := am) h3_1
      rw [hE]
      exact ⟨(), rfl, h1, h2, h3⟩)
   | (have hE := cr (v := v) (am := am) h3_1 h6_8
      rw [hE]
      exact ⟨(), rfl, h1, h2, h3⟩)
   | (have hE := cn (am := am) h3_1 h6_8 h9_2
      rw [hE]
      exact ⟨(), rfl, h1, h2, h3⟩)
   | (have hE := bG (am := am) h3_1 h6_8 h9_2 (show bq v am n = none from hpf)
      rw [hE]
      exact ⟨(), rfl, h1, h2, h3⟩)
   | (have hq : bq v am n = g := by
        rw [bq, hxs, List.find?_append, ← hq9]
        cases g with
        | none => cases hqs
        | some y => rfl
      have hE := bG (am := am) h3_1 h6_8 h9_2 hq
      rw [hqs, if_pos rfl] at hE
      rw [hE]
      exact ⟨(), rfl, h1, h2, h3⟩)
   | (trace_state; fail)
 exact wrv_nil
 refine ap (bB rfl) rfl rfl ?_
 refine ap (ai rfl) rfl rfl ?_
 refine ab ?_
 refine aj ?_
 refine ax rfl ?_
 refine ao ?_
 refine aa ?_
 refine ap (bD rfl (eR)) rfl rfl ?_
 refine aS aQ rfl rfl rfl (.s (.z)) rfl rfl rfl rfl ?_
 refine aS du rfl rfl rfl .z rfl rfl rfl rfl ?_
 refine ab ?_
 refine aj ?_
 refine aB ?_
 refine aM ?_
 refine aw ?_
 refine eB ?_
 refine dy (rs := [.cell 4 29, .cell 5 40]) rfl (bA 1 aQ rfl rfl rfl rfl (dQ 0 du rfl rfl rfl bS)) (fun w hw => ?_)
 obtain ⟨h1, h2, h3⟩ := (hw.weak (.cons _ (.cons _ (.cons _ (.cons _ (.cons_cons _ (.cons_cons _ .slnil)))))) (fun s hs => hs)).f1.f1.two.uc
 focus first
   | (have hE := cY (v := v) (hm := hm) (am := am) h3_1
      rw [hE]
      exact ⟨(), rfl, h1, h2, h3⟩)
   | (have hE := cr (v := v) (am := am) h3_1 h6_8
      rw [hE]
      exact ⟨(), rfl, h1, h2, h3⟩)
   | (have hE := cn (am := am) h3_1 h6_8 h9_2
      rw [hE]
      exact ⟨(), rfl, h1, h2, h3⟩)
   | (have hE := bG (am := am) h3_1 h6_8 h9_2 (show bq v am n = none from hpf)
      rw [hE]
      exact ⟨(), rfl, h1, h2, h3⟩)
   | (have hq : bq v am n = g := by
        rw [bq, hxs, List.find?_append, ← hq9]
        cases g with
        | none => cases hqs
        | some y => rfl
      have hE := bG (am := am) h3_1 h6_8 h9_2 hq
      rw [hqs, if_pos rfl] at hE
      rw [hE]
      exact ⟨(), rfl, h1, h2, h3⟩)
   | (trace_state; fail)
end Go.Proofs.YtnpdgmoeoidppaaGreat
