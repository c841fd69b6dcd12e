import Derived.Test.YtnpdgmoeoidppaaGreatLzQt
/- vips: a pool -/
namespace Go.Proofs.YtnpdgmoeoidppaaGreat
open Go.RowKit Go.Shelf
set_option linter.unusedVariables false
set_option linter.unusedSimpArgs false

theorem gS (x0 : aV) (x1 : Bool) (x2 : Int) (x3 : Int) : Tryz.prog.built 46 [(0, .string (ba x0)), (1, .agg [.bool x1, .int .u64 x2, .int .u64 x3].toArray)] = some [.string (ba x0), .bool x1, .int .u64 x2, .int .u64 x3].toArray := by kernel_rfl
theorem ent_104 : Enters Tryz.prog 104 := enters_of Tryz.func104 (by kernel_rfl) rfl
theorem ent_164 : Enters Tryz.prog 164 := enters_of Tryz.func164 (by kernel_rfl) rfl
theorem ent_35 : Enters Tryz.prog 35 := enters_of Tryz.func35 (by kernel_rfl) rfl
theorem ent_95 : Enters Tryz.prog 95 := enters_of Tryz.func95 (by kernel_rfl) rfl
theorem ent_96 : Enters Tryz.prog 96 := enters_of Tryz.func96 (by kernel_rfl) rfl
theorem ent_98 : Enters Tryz.prog 98 := enters_of Tryz.func98 (by kernel_rfl) rfl
theorem ent_99 : Enters Tryz.prog 99 := enters_of Tryz.func99 (by kernel_rfl) rfl
theorem f9 : FA Tryz.prog 146 0 0 := fun b o w => by kernel_rfl
theorem dA : FA Tryz.prog 146 1 5 := fun b o w => by kernel_rfl
theorem gb : FA Tryz.prog 146 2 6 := fun b o w => by kernel_rfl
theorem fa_146_3 : FA Tryz.prog 146 3 7 := fun b o w => by kernel_rfl
theorem dU : FA Tryz.prog 46 1 1 := fun b o w => by kernel_rfl
theorem d7 : FA Tryz.prog 67 0 0 := fun b o w => by kernel_rfl
theorem eb : FA Tryz.prog 67 1 4 := fun b o w => by kernel_rfl
theorem eE : TyI Tryz.prog 143 false 1 8 (.map none) := TyI.mk' (by kernel_rfl) (fun _ => by kernel_rfl)
theorem ty_144 : TyI Tryz.prog 144 false 1 8 (.map none) := TyI.mk' (by kernel_rfl) (fun _ => by kernel_rfl)
theorem fF : TyI Tryz.prog 68 false 1 8 (.pointer none) := TyI.mk' (by kernel_rfl) (fun _ => by kernel_rfl)

abbrev cQ : Hd → Value := fun h => .agg (d4 h).toArray
/-- A pool that was made: its range, what is reserved, its room, where it lies. -/
structure Vp where
  rg : Rg
  res : List Rg
  A : Option Addr
  c : Nat
  room : Int
  b : Nat
  rh : Nat
  ra : Nat
def plC (r : Rg) (A : Option Addr) (n c : Nat) : List Value := [.bool r.base.six, .int .u64 r.base.hi, .int .u64 r.base.lo, .int .i64 r.bits, .slice A n c]
def vpC (v : Vp) : List Value := [.bool v.rg.base.six, .int .u64 v.rg.base.hi, .int .u64 v.rg.base.lo, .int .i64 v.rg.bits, .slice v.A v.res.length v.c, .map (some v.rh), .map (some v.ra), .int .i64 v.room]
structure VOk (v : Vp) : Prop where
  rg : RgOk v.rg
  res : ∀ x ∈ v.res, RgOk x
  len : v.res.length ≤ 4398046510976
  room : 0 ≤ v.room ∧ v.room ≤ 65536
abbrev Hm := List (aV × Hd)
abbrev Am := List (Ad × aV)
def vmC (v : Vp) (hm : Hm) (am : Am) : Ch := Ch.two (Ch.mp v.rh cy cQ hm) (Ch.mp v.ra fx cy am)
def dn : List Rg → Int
  | [] => 0
  | r :: t => if cw r ≠ 0 then cw r else dn t
theorem cksR_drop {l : List Rg} {k : Nat} (hk : k < l.length) (h : dn l = dn (l.drop k)) : dn l = if cw (l.getD k hU) ≠ 0 then cw (l.getD k hU) else dn (l.drop (k + 1)) := by
  rw [h, el l hU k hk, dn]
def bl (n : aV) : Bool := decide (n ≠ []) && decide (bB n = 0)
def cX (res : List Rg) (am : Am) (a : Ad) : Bool := !(cA am a).isSome && dJ res a
def adO (v : Vp) (g : Option Int) : Ad := match g with | none => ad0 | some i => (atR v.rg i).1
def hmO (v : Vp) (hm : Hm) (n : aV) (g : Option Int) : Hm := match g with | none => hm | some i => hm ++ [(a6 n, ⟨n, (atR v.rg i).1⟩)]
def amO (v : Vp) (am : Am) (n : aV) (g : Option Int) : Am := match g with | none => am | some i => am ++ [((atR v.rg i).1, a6 n)]
def bO (v : Vp) (am : Am) (n : aV) : Option Int := (dZ n (bj v.rg)).find? fun i => cX v.res am (atR v.rg i).1
def bK (v : Vp) (hm : Hm) (am : Am) (n : aV) : (Ad × Int) × Hm × Am :=
  if bl n = false then ((ad0, 2), hm, am) else
  match cA hm (a6 n) with
  | some h => ((h.ad, 0), hm, am)
  | none => if v.room - hm.length = 0 then ((ad0, 10), hm, am) else
    ((adO v (bO v am n), if (bO v am n).isSome = true then 0 else 10), hmO v hm n (bO v am n), amO v am n (bO v am n))
theorem cM {v : Vp} {hm : Hm} {am : Am} {n : aV} (h : bl n = false) : bK v hm am n = ((ad0, 2), hm, am) := if_pos h
theorem cF {v : Vp} {hm : Hm} {am : Am} {n : aV} (h : bl n = true) (h2 : (cA hm (a6 n)).isSome = true) : bK v hm am n = ((((cA hm (a6 n)).getD ct).ad, 0), hm, am) := by
  rw [bK, if_neg (by rw [h]; decide)]
  cases h3 : cA hm (a6 n) with
  | none => rw [h3] at h2; cases h2
  | some x => rfl
theorem cS {v : Vp} {hm : Hm} {am : Am} {n : aV} (h : bl n = true) (h2 : (cA hm (a6 n)).isSome = false) (h4 : v.room - hm.length = 0) : bK v hm am n = ((ad0, 10), hm, am) := by
  rw [bK, if_neg (by rw [h]; decide)]
  cases h3 : cA hm (a6 n) with
  | some x => rw [h3] at h2; cases h2
  | none => exact if_pos h4
theorem cp {v : Vp} {hm : Hm} {am : Am} {n : aV} (h : bl n = true) (h2 : (cA hm (a6 n)).isSome = false) (h4 : ¬ v.room - hm.length = 0) {g : Option Int} (hg : bO v am n = g) : bK v hm am n = ((adO v g, if g.isSome = true then 0 else 10), hmO v hm n g, amO v am n g) := by
  subst hg
  rw [bK, if_neg (by rw [h]; decide)]
  cases h3 : cA hm (a6 n) with
  | some x => rw [h3] at h2; cases h2
  | none => exact if_neg h4
def jd (hm : Hm) (am : Am) (key : aV) : Hm × Am := (rmv hm key, rmv am ((cA hm key).getD ct).ad)
def di (hm : Hm) (am : Am) (n : aV) : Int × Hm × Am := if bl n = false then (2, hm, am) else if (cA hm (a6 n)).isSome = false then (5, hm, am) else (0, jd hm am (a6 n))
def ofV (hm : Hm) (n : aV) : Ad × Bool := if bl n = false then (ad0, false) else (((cA hm (a6 n)).getD ct).ad, (cA hm (a6 n)).isSome)
def gH (hm : Hm) (am : Am) (a : Ad) : aV × Bool := if (cA am a).isSome = false then ([], false) else (((cA hm ((cA am a).getD [])).getD ct).host, true)
theorem fV {o : Option Hd} : Value.tuple [(o.map cQ).getD (.agg [.string .empty, .bool false, .int .u64 0, .int .u64 0].toArray), .bool o.isSome].toArray = .tuple #[.agg (d4 (o.getD ct)).toArray, .bool o.isSome] := by cases o <;> rfl
theorem look1_hd {o : Option Hd} : (o.map cQ).getD (.agg [.string .empty, .bool false, .int .u64 0, .int .u64 0].toArray) = .agg (d4 (o.getD ct)).toArray := by cases o <;> rfl
theorem look2_n {o : Option aV} : Value.tuple [(o.map cy).getD (.string .empty), .bool o.isSome].toArray = .tuple #[.string (ba (o.getD [])), .bool o.isSome] := by cases o <;> rfl
theorem look1_b {o : Option Bool} : (o.map (fun b : Bool => Value.bool b)).getD (.bool false) = .bool (o.getD false) := by cases o <;> rfl
theorem gv {α β : Type} [DecidableEq α] {m : List (α × β)} {a : α} (h : (cA m a).isSome = false) : cA m a = none := by
  cases hh : cA m a with
  | none => rfl
  | some x => rw [hh] at h; cases h
theorem ir {res : List Rg} {am : Am} {a : Ad} (h : cX res am a = true) : cA am a = none := gv (by
  simp only [cX, Bool.and_eq_true, Bool.not_eq_true'] at h; exact h.1)

theorem i6 (rg : Rg) (res : List Rg) (A : Option Addr) (c : Nat) (hr : RgOk rg) (hrs : ∀ x ∈ res, RgOk x) (hl : res.length ≤ 4398046510976) : RC Tryz.prog 43 #[.agg (plC rg A res.length c).toArray] [Ch.rd A 4 dR res] (α := Unit) (fun _ => .int .i64 (dn (rg :: res))) (fun _ => []) := by
 refine bi (args := [.agg (plC rg A res.length c).toArray]) 23 Tryz.func43 rfl rfl rfl (fun w0 => ?_)
 have hall : ∀ x ∈ [rg] ++ res, RgOk x := fun x hx => (List.mem_append.1 hx).elim (fun h => by rw [List.mem_singleton.1 h]; exact hr) (hrs x)
 have hle : ([rg] ++ res).length = res.length + 1 := by simp
 refine ao ?_
 refine ab ?_
 refine bE rfl rfl rfl (fun b1 => ?_)
 refine ap (ai rfl) rfl rfl ?_
 refine ae ?_
 refine aj ?_
 refine ao ?_
 refine ao ?_
 refine ab ?_
 refine ap (aB d7 rfl) rfl rfl ?_
 refine ap (aK 0 cm rfl rfl rfl rfl) rfl rfl ?_
 refine du (vs := [_]) ([rg] : List (Rg)) fO Tryz.underlying65 cm rfl rfl rfl rfl rfl rfl (fun As2 => ?_)
 refine ap (aB eb rfl) rfl rfl ?_
 refine ap (aM 1 fZ rfl rfl rfl) rfl rfl ?_
 refine cg (enc := dR) (sz := 4) res Tryz.underlying65 cm rfl rfl rfl (fun A c => .z) (src_S 0 Tryz.underlying65 rfl) (by simp only [List.length_cons, List.length_nil]; omega) (by simp only [List.length_cons, List.length_nil]; omega) rfl (fun A2 c2 => ?_)
 refine ap (bM Tryz.underlying65 rfl) rfl rfl ?_
 refine ap (ak rfl) rfl rfl ?_
 refine ae ?_
 refine aj ?_
 refine aP ?_
 refine b8 (σ := Nat) [2, 4, 5, 13, 14, 15, 16, 17, 18, 19, 20, 21, 22] (fun k => k ≤ ([rg] ++ res).length ∧ dn ([rg] ++ res) = dn (([rg] ++ res).drop k)) (fun k => ([rg] ++ res).length - k) (fun k => [(13, .int .i64 k)]) (0) ?_ ⟨rfl, trivial⟩ (fun k hI => ?_)
 exact ⟨Nat.zero_le _, rfl⟩
 refine ao ?_
 refine ab ?_
 refine ap (bF rfl rfl) rfl rfl ?_
 refine aC (t := 14) rfl (fun h2_0 => ?_) (fun h2_0 => ?_)
 have hk : k < ([rg] ++ res).length := by omega
 have hck := cksR_drop hk hI.2
 have hxk := hall _ (bX (d := hU) hk)
 refine ae ?_
 refine aj ?_
 refine ao ?_
 refine ay rfl ?_
 refine aH ?_
 refine aj ?_
 refine ao ?_
 refine aP ?_
 refine ao ?_
 refine ab ?_
 refine ap (bP  Tryz.underlying65 cm rfl rfl (ek 0 rfl) rfl (by omega)) rfl rfl ?_
 refine ap (dV fO hU cm rfl (ek 0 rfl) (by omega) rfl rfl rfl) rfl rfl ?_
 refine bz cm rfl rfl (fun b4 => ?_)
 refine aT cm rfl rfl rfl .z rfl rfl rfl rfl ?_
 refine ae ?_
 refine aj ?_
 refine ao ?_
 refine ab ?_
 refine ap (aK 0 cm rfl rfl rfl rfl) rfl rfl ?_
 refine aS rfl ent_110 (c_rCheck (([rg] ++ res).getD k hU) hxk.lo.1) rfl ?_
 refine ap (ai rfl) rfl rfl ?_
 refine ae ?_
 refine aj ?_
 refine ao ?_
 refine ab ?_
 refine ap (ak rfl) rfl rfl ?_
 refine ap (cv rfl rfl) rfl rfl ?_
 refine aC (t := 20) rfl (fun h5_1 => ?_) (fun h5_1 => ?_)
 refine ae ?_
 refine aj ?_
 refine ay rfl ?_
 refine ao ?_
 refine ab ?_
 refine ap (ak rfl) rfl rfl ?_
 refine ap (ai rfl) rfl rfl ?_
 refine ae ?_
 refine aj ?_
 refine aF ?_
 refine aL ?_
 refine aA ?_
 refine bu ?_
 refine aL ?_
 refine aA ?_
 refine aJ (ts := [2]) rfl rfl rfl (fun w hw => ?_)
 have hE : dn (rg :: res) = cw (([rg] ++ res).getD k hU) := hck.trans (if_pos h5_1)
 exact ⟨(), by rw [hE]; rfl, hw.base, (hw.weak (List.nil_sublist _) (fun s hs => hs)).toNews⟩
 refine ae ?_
 refine aj ?_
 refine au rfl ?_
 refine aH ?_
 refine bq ?_
 refine aj ?_
 refine ab ?_
 refine ap (bg rfl rfl (by omega) (by omega)) rfl rfl ?_
 refine ap (ak rfl) rfl rfl ?_
 refine ae ?_
 refine bo (k + 1) ?_ ?_ ⟨rfl, trivial⟩ (by repeat (first | exact trivial | refine ⟨rfl, ?_⟩)) (bS 1)
 exact ⟨by omega, by rw [hck, if_neg h5_1]⟩
 omega
 refine ae ?_
 refine aj ?_
 refine ao ?_
 refine au rfl ?_
 refine bC ?_
 refine aY ?_
 refine aU ?_
 refine a8 ?_
 refine aj ?_
 refine ao ?_
 refine ab ?_
 refine ap (ai rfl) rfl rfl ?_
 refine ae ?_
 refine aj ?_
 refine aF ?_
 refine aJ (ts := [2]) rfl rfl rfl (fun w hw => ?_)
 have hE : dn (rg :: res) = 0 := by
   have h9 := hI.2
   rw [List.drop_of_length_le (by omega)] at h9; exact h9
 exact ⟨(), by rw [hE]; rfl, hw.base, (hw.weak (List.nil_sublist _) (fun s hs => hs)).toNews⟩

theorem c_Clone_rg (l : List Rg) (A : Option Addr) (c : Nat) (hl : l.length ≤ 4398046510976) : RC Tryz.prog 90 #[.slice A l.length c] [Ch.rd A 4 dR l] (α := Option Addr × Nat) (fun p => .slice p.1 l.length p.2) (fun p => [Ch.ls p.1 p.2 64 4 dR l]) := by
 refine bi (args := [.slice A l.length c]) 8 Tryz.func90 rfl rfl rfl (fun w0 => ?_)
 refine ao ?_
 refine ab ?_
 refine ap (ai rfl) rfl rfl ?_
 refine ae ?_
 refine aj ?_
 refine ao ?_
 refine ao ?_
 refine ab ?_
 refine ap (ak rfl) rfl rfl ?_
 refine ap (y_eqsn Tryz.underlying65 rfl rfl) rfl rfl ?_
 refine bk (t := 4) rfl (fun h1_1 => ?_) (fun h1_1 => ?_)
 refine ae ?_
 refine aj ?_
 refine ay rfl ?_
 refine ao ?_
 refine ab ?_
 refine ap (ai rfl) rfl rfl ?_
 refine ae ?_
 refine aj ?_
 refine aF ?_
 refine aA ?_
 refine aJ (ts := [2]) rfl rfl rfl (fun w hw => ?_)
 have hr : RsP A l.length 4 _ w := hw.sh _ List.mem_cons_self
 have h0 : l = [] := List.length_eq_zero_iff.1 (rs_none hr h1_1)
 subst h0
 exact ⟨(none, 0), rfl, hw.base, (hw.nilsl 64 4).toNews⟩
 refine ae ?_
 refine aj ?_
 refine au rfl ?_
 refine aH ?_
 refine aj ?_
 refine ao ?_
 refine ab ?_
 refine du (vs := []) ([] : List (Rg)) fO Tryz.underlying65 cm rfl rfl rfl rfl rfl rfl (fun As1 => ?_)
 refine ap (ak rfl) rfl rfl ?_
 refine cg (enc := dR) (sz := 4) l Tryz.underlying65 cm rfl rfl rfl (fun A c => .z) (src_S 0 Tryz.underlying65 rfl) (by simp only [List.length_cons, List.length_nil, Nat.zero_add]; omega) (by simp only [List.length_cons, List.length_nil, Nat.zero_add]; omega) rfl (fun A1 c1 => ?_)
 refine ap (ai rfl) rfl rfl ?_
 refine ae ?_
 refine aj ?_
 refine aF ?_
 refine aJ (ts := [2]) rfl rfl rfl (fun w hw => ?_)
 exact ⟨(A1, c1), rfl, hw.base, hw.toNews⟩

theorem c_vhost (n : aV) : cO Tryz.prog 95 #[.string (ba n)] (.bool (bl n)) := by
 intro w0
 refine bd (ok0 := no) (S := []) (args := [.string (ba n)]) 10 Tryz.func95 rfl rfl rfl (by simp) (by simp) ?_
 refine ao ?_
 refine ab ?_
 refine ap (ai rfl) rfl rfl ?_
 refine ae ?_
 refine aj ?_
 refine ao ?_
 refine ab ?_
 refine ap (ak rfl) rfl rfl ?_
 refine ap (y_neqs rfl rfl) rfl rfl ?_
 refine aC (t := 4) rfl (fun h1_1 => ?_) (fun h1_1 => ?_)
 refine ap (ak rfl) rfl rfl ?_
 refine az rfl rfl ?_
 refine ap (ak rfl) rfl rfl ?_
 refine az rfl rfl ?_
 refine aS rfl ent_74 (iG _) rfl ?_
 refine az rfl rfl ?_
 refine ap (dB rfl rfl) rfl rfl ?_
 refine ap (aX rfl rfl) rfl rfl ?_
 refine ap (ai rfl) rfl rfl ?_
 refine ae ?_
 refine aj ?_
 refine aF ?_
 refine aJ (ts := [2]) rfl rfl rfl (fun w hw => ?_)
 refine ⟨?_, hw.base⟩
 show Ending.returned (.bool _) = _
 congr 2
 focus first
   | (rw [bl, decide_eq_true h1_1]; rfl)
   | (rw [bl, decide_eq_false h1_1]; rfl)
   | (trace_state; fail)
 refine ap (ak rfl) rfl rfl ?_
 refine aO rfl rfl rfl rfl ?_
 refine aO rfl rfl rfl rfl ?_
 refine aO rfl rfl rfl rfl ?_
 refine ap (aW rfl rfl) rfl rfl ?_
 refine ap (ai rfl) rfl rfl ?_
 refine ae ?_
 refine aj ?_
 refine aF ?_
 refine aJ (ts := [2]) rfl rfl rfl (fun w hw => ?_)
 refine ⟨?_, hw.base⟩
 show Ending.returned (.bool _) = _
 congr 2
 focus first
   | (rw [bl, decide_eq_true h1_1]; rfl)
   | (rw [bl, decide_eq_false h1_1]; rfl)
   | (trace_state; fail)

set_option maxRecDepth 100000 in
theorem c_vFree (v : Vp) (hm : Hm) (hv : VOk v) (hml : hm.length ≤ 1000000) : RC Tryz.prog 35 #[.pointer (some ⟨v.b, 0, none⟩)] [Ch.row v.b (vpC v) 146, Ch.mp v.rh cy cQ hm] (α := Unit) (fun _ => .int .i64 (v.room - hm.length)) (fun _ => []) := by
 refine bi (args := [.pointer (some ⟨v.b, 0, none⟩)]) 15 Tryz.func35 rfl rfl rfl (fun w0 => ?_)
 refine ao ?_
 refine ab ?_
 refine ap (ai rfl) rfl rfl ?_
 refine ae ?_
 refine aj ?_
 refine ao ?_
 refine ao ?_
 refine ab ?_
 refine ap (ak rfl) rfl rfl ?_
 refine ap (eH Tryz.underlying68 rfl rfl) rfl rfl ?_
 refine bV (t := 4) (.bool false) rfl (congrArg Value.bool rfl) ?_
 refine ae ?_
 refine aj ?_
 refine au rfl ?_
 refine aH ?_
 refine aj ?_
 refine ao ?_
 refine eh 11 rfl mixed ?_
 have hvr := hv.room
 refine aD (i := 0) rfl ah (ak rfl) aw aw rfl (aa ar) (by kernel_rfl) rfl ?_
 refine aD (i := 1) rfl ah (aR rfl) aw aw rfl (aa ar) (by kernel_rfl) rfl ?_
 refine aD (i := 2) rfl ah (aB fa_146_3 rfl) aw aw rfl (aa ar) (by kernel_rfl) rfl ?_
 refine aD (i := 3) rfl ah (bp 0 eW rfl rfl rfl) aw aw rfl (aa ar) (by kernel_rfl) rfl ?_
 refine aD (i := 4) rfl ah (ak rfl) aw aw rfl (aa ar) (by kernel_rfl) rfl ?_
 refine aD (i := 5) rfl ah (aR rfl) aw aw rfl (aa ar) (by kernel_rfl) rfl ?_
 refine aD (i := 6) rfl ah (aB dA rfl) aw aw rfl (aa ar) (by kernel_rfl) rfl ?_
 refine aD (i := 7) rfl ah (bp 0 eE rfl rfl rfl) aw aw rfl (aa ar) (by kernel_rfl) rfl ?_
 refine aD (i := 8) rfl ah (y_lenmp (encK := cy) (encV := cQ) Tryz.underlying143 rfl (fun w hw => hw.sh _ (List.mem_of_getElem? (i := 1) rfl))) aw aw rfl (aa ar) (by kernel_rfl) rfl ?_
 refine aD (i := 9) rfl ah (fM rfl rfl (by omega) (by omega)) aw aw rfl (aa ar) (by kernel_rfl) rfl ?_
 refine aD (i := 10) rfl ah (ai rfl) aw aw rfl (aa ar) (by kernel_rfl) rfl ?_
 refine cB (by kernel_rfl) ?_
 refine aj ?_
 refine aF ?_
 refine aJ (ts := [2]) rfl rfl rfl (fun w hw => ?_)
 exact ⟨(), rfl, hw.base, (hw.weak (List.nil_sublist _) (fun s hs => hs)).toNews⟩

set_option maxRecDepth 100000 in
theorem c_vfree (v : Vp) (am : Am) (a : Ad) (hv : VOk v) (ha : 0 ≤ a.lo) : RC Tryz.prog 99 #[.pointer (some ⟨v.b, 0, none⟩), .agg (dN a).toArray] [Ch.row v.b (vpC v) 146, Ch.rd v.A 4 dR v.res, Ch.mp v.ra fx cy am] (α := Unit) (fun _ => .bool (cX v.res am a)) (fun _ => []) := by
 refine bi (args := [.pointer (some ⟨v.b, 0, none⟩), .agg (dN a).toArray]) 25 Tryz.func99 rfl rfl rfl (fun w0 => ?_)
 refine ao ?_
 refine ab ?_
 refine bE rfl rfl rfl (fun b1 => ?_)
 refine ap (ai rfl) rfl rfl ?_
 refine ae ?_
 refine aj ?_
 refine ao ?_
 refine ao ?_
 refine de 11 rfl mixed ?_
 refine ax (i := 0) rfl ah (ak rfl) aw aw rfl (aa (aa ar)) (by kernel_rfl) rfl ?_
 refine ax (i := 1) rfl ah (aR rfl) aw aw rfl (aa (aa ar)) (by kernel_rfl) rfl ?_
 refine ax (i := 2) rfl ah (aB gb rfl) aw aw rfl (aa (aa ar)) (by kernel_rfl) rfl ?_
 refine ax (i := 3) rfl ah (bp 0 ty_144 rfl rfl rfl) aw aw rfl (aa (aa ar)) (by kernel_rfl) rfl ?_
 refine ax (i := 4) rfl ah (aK 0 aN rfl rfl rfl rfl) aw aw rfl (aa (aa ar)) (by kernel_rfl) rfl ?_
 refine bD (i := 5) rfl rfl rfl (fun _ _ _ => a7 (by kernel_rfl)) (by kernel_rfl) rfl ?_
 refine ap (ez Tryz.underlying144 i4 bL rfl rfl (fun w hw => hw.sh _ (List.mem_of_getElem? (i := 2) rfl))) rfl rfl ?_
 refine ae ?_
 refine bc aw ?_
 refine f0 (t := 13) (.tuple #[.string (ba ((cA am a).getD [])), .bool (cA am a).isSome]) rfl look2_n ?_
 refine ax (i := 6) rfl ah (ak rfl) aw aw rfl (aa (aa ar)) (by kernel_rfl) rfl ?_
 refine ax (i := 7) rfl ah (aI rfl rfl) aw aw rfl (aa (aa ar)) (by kernel_rfl) rfl ?_
 refine ax (i := 8) rfl ah (aI rfl rfl) aw aw rfl (aa (aa ar)) (by kernel_rfl) rfl ?_
 refine gT (t := 15) rfl (fun h1_8 => ?_) (fun h1_8 => ?_)
 refine ax (i := 9) rfl ah (ai rfl) aw aw rfl (aa (aa ar)) (by kernel_rfl) rfl ?_
 refine ax (i := 10) rfl ah (ai rfl) aw aw rfl (aa (aa ar)) (by kernel_rfl) rfl ?_
 refine bQ (by kernel_rfl) ?_
 refine aj ?_
 refine ao ?_
 refine ab ?_
 refine ap (ak rfl) rfl rfl ?_
 refine ae ?_
 refine aj ?_
 refine ay rfl ?_
 refine ao ?_
 refine ab ?_
 refine ap (ai rfl) rfl rfl ?_
 refine ae ?_
 refine aj ?_
 refine aF ?_
 refine aA ?_
 refine aJ (ts := [4]) rfl rfl rfl (fun w hw => ?_)
 refine ⟨(), ?_, hw.base, (hw.weak (List.nil_sublist _) (fun s hs => hs)).toNews⟩
 show Ending.returned (.bool _) = _
 congr 2
 focus first
   | (rw [cX, h1_8]; rfl)
   | (trace_state; fail)
 refine ax (i := 9) rfl ah (ai rfl) aw aw rfl (aa (aa ar)) (by kernel_rfl) rfl ?_
 refine ax (i := 10) rfl ah (ai rfl) aw aw rfl (aa (aa ar)) (by kernel_rfl) rfl ?_
 refine bQ (by kernel_rfl) ?_
 refine aj ?_
 refine ao ?_
 refine ab ?_
 refine ap (ak rfl) rfl rfl ?_
 refine ae ?_
 refine aj ?_
 refine au rfl ?_
 refine aH ?_
 refine aj ?_
 refine ao ?_
 refine ab ?_
 refine ap (ak rfl) rfl rfl ?_
 refine ap (aR rfl) rfl rfl ?_
 refine ap (aB f9 rfl) rfl rfl ?_
 refine ap (aB eb rfl) rfl rfl ?_
 refine ap (bp 0 fZ rfl rfl rfl) rfl rfl ?_
 refine ap (ee rfl rfl) rfl rfl ?_
 refine bv rfl ent_157 rfl (c_cntV v.res v.A v.c a b1 hv.res ha hv.len) (fun w hw => (aQ (cI 1 rfl hw) (aQ (dL 0 rfl hw) bf))) ?_
 refine ap (bJ rfl) rfl rfl ?_
 refine ap (ai rfl) rfl rfl ?_
 refine ae ?_
 refine aj ?_
 refine aF ?_
 refine aJ (ts := [4]) rfl rfl rfl (fun w hw => ?_)
 refine ⟨(), ?_, hw.base, (hw.weak (List.nil_sublist _) (fun s hs => hs)).toNews⟩
 show Ending.returned (.bool _) = _
 congr 2
 focus first
   | (rw [cX, h1_8]; rfl)
   | (trace_state; fail)

set_option maxRecDepth 100000 in
theorem c_vdrop (v : Vp) (hm : Hm) (am : Am) (key : aV) : UC Tryz.prog 104 #[.pointer (some ⟨v.b, 0, none⟩), .string (ba key)] [Ch.row v.b (vpC v) 146] (vmC v hm am) (α := Unit) (fun _ => .tuple #[]) (fun _ => vmC v (jd hm am key).1 (jd hm am key).2) := by
 refine ea (args := [.pointer (some ⟨v.b, 0, none⟩), .string (ba key)]) 20 Tryz.func104 rfl rfl rfl (fun w0 => ?_)
 refine cH (fun w h => h.untwo) ?_
 refine ao ?_
 refine de 11 rfl mixed ?_
 refine ax (i := 0) rfl ah (ak rfl) aw aw rfl (aa ar) (by kernel_rfl) rfl ?_
 refine ax (i := 1) rfl ah (aR rfl) aw aw rfl (aa ar) (by kernel_rfl) rfl ?_
 refine ax (i := 2) rfl ah (aB gb rfl) aw aw rfl (aa ar) (by kernel_rfl) rfl ?_
 refine ax (i := 3) rfl ah (bp 0 ty_144 rfl rfl rfl) aw aw rfl (aa ar) (by kernel_rfl) rfl ?_
 refine ax (i := 4) rfl ah (ak rfl) aw aw rfl (aa ar) (by kernel_rfl) rfl ?_
 refine ax (i := 5) rfl ah (aR rfl) aw aw rfl (aa ar) (by kernel_rfl) rfl ?_
 refine ax (i := 6) rfl ah (aB dA rfl) aw aw rfl (aa ar) (by kernel_rfl) rfl ?_
 refine ax (i := 7) rfl ah (bp 0 eE rfl rfl rfl) aw aw rfl (aa ar) (by kernel_rfl) rfl ?_
 refine ax (i := 8) rfl ah (ak rfl) aw aw rfl (aa ar) (by kernel_rfl) rfl ?_
 refine bD (i := 9) rfl rfl rfl (fun _ _ _ => a7 (by kernel_rfl)) (by kernel_rfl) rfl ?_
 refine ap (iR Tryz.underlying143 (cV Tryz.underlying26) bh rfl rfl (fun w hw => hw.own _ (List.mem_of_getElem? (i := 0) rfl))) rfl rfl ?_
 refine ae ?_
 refine bc aw ?_
 refine f0 (t := 13) (.agg (d4 ((cA hm key).getD ct)).toArray) rfl look1_hd ?_
 refine ax (i := 10) rfl ah (y_fieldv (v := .agg (dN ((cA hm key).getD ct).ad).toArray) rfl (fun w => by kernel_rfl)) aw aw rfl (aa ar) (by kernel_rfl) rfl ?_
 refine bD (i := 11) rfl rfl rfl (fun _ _ _ => a7 (by kernel_rfl)) (by kernel_rfl) rfl ?_
 refine o_mapDel (encK := fx) (encV := cy) (a := ((cA hm key).getD ct).ad) Tryz.underlying144 i4 rfl rfl (.s (.z)) ?_
 refine ae ?_
 refine eu_tail rfl ?_
 refine bQ (by kernel_rfl) ?_
 refine aj ?_
 refine ab ?_
 refine ap (ak rfl) rfl rfl ?_
 refine ap (aR rfl) rfl rfl ?_
 refine ap (aB dA rfl) rfl rfl ?_
 refine ap (bp 0 eE rfl rfl rfl) rfl rfl ?_
 refine ap (ak rfl) rfl rfl ?_
 refine o_mapDel (encK := cy) (encV := cQ) (a := key) Tryz.underlying143 (cV Tryz.underlying26) rfl rfl .z ?_
 refine ae ?_
 refine i5 (ts := []) rfl rfl rfl (fun w hw => ?_)
 obtain ⟨h1, h2, h3⟩ := hw.two.uc
 exact ⟨(), rfl, h1, h2, h3⟩

theorem c_vDrop (v : Vp) (hm : Hm) (am : Am) (n : aV) (hn : n.length ≤ 1000000000) : UC Tryz.prog 38 #[.pointer (some ⟨v.b, 0, none⟩), .string (ba n)] [Ch.row v.b (vpC v) 146] (vmC v hm am) (α := Unit) (fun o => .int .i64 (di hm am n).1) (fun o => vmC v (di hm am n).2.1 (di hm am n).2.2) := by
 refine ea (args := [.pointer (some ⟨v.b, 0, none⟩), .string (ba n)]) 31 Tryz.func38 rfl rfl rfl (fun w0 => ?_)
 refine cH (fun w h => h.untwo) ?_
 refine ao ?_
 refine ab ?_
 refine ap (ai rfl) rfl rfl ?_
 refine ae ?_
 refine aj ?_
 refine ao ?_
 refine aP ?_
 refine ao ?_
 refine ab ?_
 refine ap (ak rfl) rfl rfl ?_
 refine ap (eH Tryz.underlying68 rfl rfl) rfl rfl ?_
 refine bV (t := 10) (.bool false) rfl (congrArg Value.bool rfl) ?_
 refine ap (ai rfl) rfl rfl ?_
 refine ae ?_
 refine aj ?_
 refine au rfl ?_
 refine ao ?_
 refine ab ?_
 refine ap (ak rfl) rfl rfl ?_
 refine aS rfl ent_95 (c_vhost _) rfl ?_
 refine bk (t := 13) rfl (fun h3_1 => ?_) (fun h3_1 => ?_)
 refine ap (bJ rfl) rfl rfl ?_
 refine ap (ai rfl) rfl rfl ?_
 refine ae ?_
 refine aj ?_
 refine au rfl ?_
 refine aH ?_
 refine bq ?_
 refine aj ?_
 refine ao ?_
 refine ab ?_
 refine ap (ak rfl) rfl rfl ?_
 refine aS rfl gl (dK _ (by omega)) rfl ?_
 refine ap (ai rfl) rfl rfl ?_
 refine ae ?_
 refine aj ?_
 refine ao ?_
 refine ao ?_
 refine ab ?_
 refine ap (ak rfl) rfl rfl ?_
 refine ap (aR rfl) rfl rfl ?_
 refine ap (aB dA rfl) rfl rfl ?_
 refine ap (bp 0 eE rfl rfl rfl) rfl rfl ?_
 refine ap (ak rfl) rfl rfl ?_
 refine ap (ez Tryz.underlying143 (cV Tryz.underlying26) bh rfl rfl (fun w hw => hw.own _ (List.mem_of_getElem? (i := 0) rfl))) rfl rfl ?_
 refine bV (t := 23) (.tuple #[.agg (d4 ((cA hm (a6 n)).getD ct)).toArray, .bool (cA hm (a6 n)).isSome]) rfl fV ?_
 refine ap (ak rfl) rfl rfl ?_
 refine ap (aI rfl rfl) rfl rfl ?_
 refine ap (aI rfl rfl) rfl rfl ?_
 refine bk (t := 25) rfl (fun h6_8 => ?_) (fun h6_8 => ?_)
 refine bz bh rfl rfl (fun b1 => ?_)
 refine aT bh rfl rfl rfl .z rfl rfl rfl rfl ?_
 refine ap (ai rfl) rfl rfl ?_
 refine ae ?_
 refine aj ?_
 refine ao ?_
 refine ab ?_
 refine ap (ak rfl) rfl rfl ?_
 refine ap (bJ rfl) rfl rfl ?_
 refine ae ?_
 refine aj ?_
 refine au rfl ?_
 refine aH ?_
 refine aj ?_
 refine ao ?_
 refine ab ?_
 refine ap (ak rfl) rfl rfl ?_
 refine ap (ak rfl) rfl rfl ?_
 refine cE (fun w h => h.f2.f2.two) ?_
 refine cu rfl ent_104 rfl (c_vdrop v hm am (a6 n)) (fun o => .z) (List.mem_of_getElem? (i := 0) rfl) (fun s hs => (List.mem_singleton.1 hs) ▸ .head _) (fun o1 => ?_)
 refine cE (fun w h => h.untwo) ?_
 refine ae ?_
 refine aj ?_
 refine ao ?_
 refine ab ?_
 refine ap (ai rfl) rfl rfl ?_
 refine ae ?_
 refine aj ?_
 refine aF ?_
 refine aJ (ts := [4]) rfl rfl rfl (fun w hw => ?_)
 obtain ⟨h1, h2, h3⟩ := (hw.weak (.cons_cons _ (.cons_cons _ (.cons _ .slnil))) (fun s hs => hs)).f1.f1.two.uc
 focus first
   | (have hE : di hm am n = (2, hm, am) := if_pos h3_1
      rw [hE]
      exact ⟨(), rfl, h1, h2, h3⟩)
   | (have hE : di hm am n = (5, hm, am) := by rw [di, if_neg (by rw [h3_1]; decide), if_pos h6_8]
      rw [hE]
      exact ⟨(), rfl, h1, h2, h3⟩)
   | (have hE : di hm am n = (0, jd hm am (a6 n)) := by rw [di, if_neg (by rw [h3_1]; decide), if_neg (by rw [h6_8]; decide)]
      rw [hE]
      exact ⟨(), rfl, h1, h2, h3⟩)
   | (trace_state; fail)
 refine bz bh rfl rfl (fun b3 => ?_)
 refine aT bh rfl rfl rfl .z rfl rfl rfl rfl ?_
 refine ap (ai rfl) rfl rfl ?_
 refine ae ?_
 refine aj ?_
 refine ao ?_
 refine ab ?_
 refine ap (ak rfl) rfl rfl ?_
 refine ap (bJ rfl) rfl rfl ?_
 refine ae ?_
 refine aj ?_
 refine ay rfl ?_
 refine ao ?_
 refine ab ?_
 refine ap (ai rfl) rfl rfl ?_
 refine ae ?_
 refine aj ?_
 refine aF ?_
 refine aA ?_
 refine aJ (ts := [4]) rfl rfl rfl (fun w hw => ?_)
 obtain ⟨h1, h2, h3⟩ := (hw.weak (.cons _ (.cons_cons _ (.cons_cons _ .slnil))) (fun s hs => hs)).f1.f1.two.uc
 focus first
   | (have hE : di hm am n = (2, hm, am) := if_pos h3_1
      rw [hE]
      exact ⟨(), rfl, h1, h2, h3⟩)
   | (have hE : di hm am n = (5, hm, am) := by rw [di, if_neg (by rw [h3_1]; decide), if_pos h6_8]
      rw [hE]
      exact ⟨(), rfl, h1, h2, h3⟩)
   | (have hE : di hm am n = (0, jd hm am (a6 n)) := by rw [di, if_neg (by rw [h3_1]; decide), if_neg (by rw [h6_8]; decide)]
      rw [hE]
      exact ⟨(), rfl, h1, h2, h3⟩)
   | (trace_state; fail)
 refine ap (bJ rfl) rfl rfl ?_
 refine ap (ai rfl) rfl rfl ?_
 refine ae ?_
 refine aj ?_
 refine ay rfl ?_
 refine ao ?_
 refine ab ?_
 refine ap (ai rfl) rfl rfl ?_
 refine ae ?_
 refine aj ?_
 refine aF ?_
 refine aL ?_
 refine aA ?_
 refine aJ (ts := [4]) rfl rfl rfl (fun w hw => ?_)
 obtain ⟨h1, h2, h3⟩ := (hw.weak (.cons_cons _ (.cons_cons _ .slnil)) (fun s hs => hs)).f1.f1.two.uc
 focus first
   | (have hE : di hm am n = (2, hm, am) := if_pos h3_1
      rw [hE]
      exact ⟨(), rfl, h1, h2, h3⟩)
   | (have hE : di hm am n = (5, hm, am) := by rw [di, if_neg (by rw [h3_1]; decide), if_pos h6_8]
      rw [hE]
      exact ⟨(), rfl, h1, h2, h3⟩)
   | (have hE : di hm am n = (0, jd hm am (a6 n)) := by rw [di, if_neg (by rw [h3_1]; decide), if_neg (by rw [h6_8]; decide)]
      rw [hE]
      exact ⟨(), rfl, h1, h2, h3⟩)
   | (trace_state; fail)

set_option maxRecDepth 100000 in
theorem c_vOf (v : Vp) (hm : Hm) (n : aV) (hn : n.length ≤ 1000000000) : RC Tryz.prog 37 #[.pointer (some ⟨v.b, 0, none⟩), .string (ba n)] [Ch.row v.b (vpC v) 146, Ch.mp v.rh cy cQ hm] (α := Unit) (fun _ => .tuple #[.agg (dN (ofV hm n).1).toArray, .bool (ofV hm n).2]) (fun _ => []) := by
 refine bi (args := [.pointer (some ⟨v.b, 0, none⟩), .string (ba n)]) 29 Tryz.func37 rfl rfl rfl (fun w0 => ?_)
 refine ao ?_
 refine ab ?_
 refine bz aN rfl rfl (fun b1 => ?_)
 refine ap (ai rfl) rfl rfl ?_
 refine ae ?_
 refine aj ?_
 refine ao ?_
 refine ao ?_
 refine ab ?_
 refine ap (ak rfl) rfl rfl ?_
 refine ap (eH Tryz.underlying68 rfl rfl) rfl rfl ?_
 refine bV (t := 9) (.bool false) rfl (congrArg Value.bool rfl) ?_
 refine ap (ak rfl) rfl rfl ?_
 refine az rfl rfl ?_
 refine ap (ak rfl) rfl rfl ?_
 refine az rfl rfl ?_
 refine aS rfl ent_95 (c_vhost _) rfl ?_
 refine bk (t := 12) rfl (fun h1_4 => ?_) (fun h1_4 => ?_)
 refine az rfl rfl ?_
 refine ap (bJ rfl) rfl rfl ?_
 refine ap (aW rfl rfl) rfl rfl ?_
 refine ae ?_
 refine aj ?_
 refine au rfl ?_
 refine aH ?_
 refine aj ?_
 refine ao ?_
 refine de 13 rfl mixed ?_
 refine ax (i := 0) rfl ah (ak rfl) aw aw rfl (aa ar) (by kernel_rfl) rfl ?_
 refine ax (i := 1) rfl ah (aR rfl) aw aw rfl (aa ar) (by kernel_rfl) rfl ?_
 refine ax (i := 2) rfl ah (aB dA rfl) aw aw rfl (aa ar) (by kernel_rfl) rfl ?_
 refine ax (i := 3) rfl ah (bp 0 eE rfl rfl rfl) aw aw rfl (aa ar) (by kernel_rfl) rfl ?_
 refine ax (i := 4) rfl ah (ak rfl) aw aw rfl (aa ar) (by kernel_rfl) rfl ?_
 refine eX (js := [5, 10]) (by kernel_rfl) rfl ?_
 refine bZ (i := 5) rfl rfl rfl (br rfl gl) rfl ?_ ?_
 refine aS rfl gl (dK _ (by omega)) rfl ?_
 refine ae ?_
 refine bc aw ?_
 refine eX (js := [6, 10]) (by kernel_rfl) rfl ?_
 refine bZ (i := 6) rfl rfl rfl (fun _ _ _ => a7 (by kernel_rfl)) rfl ?_ ?_
 refine ap (ez Tryz.underlying143 (cV Tryz.underlying26) bh rfl rfl (fun w hw => hw.sh _ (List.mem_of_getElem? (i := 1) rfl))) rfl rfl ?_
 refine ae ?_
 refine bc aw ?_
 refine f0 (t := 23) (.tuple #[.agg (d4 ((cA hm (a6 n)).getD ct)).toArray, .bool (cA hm (a6 n)).isSome]) rfl fV ?_
 refine ax (i := 7) rfl ah (ak rfl) aw aw rfl (aa ar) (by kernel_rfl) rfl ?_
 refine ax (i := 8) rfl ah (aI rfl rfl) aw aw rfl (aa ar) (by kernel_rfl) rfl ?_
 refine ax (i := 9) rfl ah (aI rfl rfl) aw aw rfl (aa ar) (by kernel_rfl) rfl ?_
 refine bD (i := 10) rfl rfl rfl (fun _ _ _ => a7 (by kernel_rfl)) (by kernel_rfl) rfl ?_
 refine bz bh rfl rfl (fun b2 => ?_)
 refine ae ?_
 refine bc (bS 1) ?_
 refine bD (i := 11) rfl rfl rfl (fun _ _ _ => a7 (by kernel_rfl)) (by kernel_rfl) rfl ?_
 refine aT bh rfl rfl rfl .z rfl rfl rfl rfl ?_
 refine ae ?_
 refine bc (bS 1) ?_
 refine ax (i := 12) rfl ah (ai rfl) (bS 1) aw rfl (aa ar) (by kernel_rfl) rfl ?_
 refine bQ (by kernel_rfl) ?_
 refine aj ?_
 refine ao ?_
 refine ab ?_
 refine ap (aB dU rfl) rfl rfl ?_
 refine ap (aK 0 aN rfl rfl rfl rfl) rfl rfl ?_
 refine ap (ak rfl) rfl rfl ?_
 refine aT aN rfl rfl rfl (.s (.z)) rfl rfl rfl rfl ?_
 refine ap (ai rfl) rfl rfl ?_
 refine ae ?_
 refine aj ?_
 refine aF ?_
 refine dp (rs := [.cell 4 29, .tmp 5]) rfl (bA 1 aN rfl rfl rfl rfl (cC rfl bR)) rfl (fun w hw => ?_)
 focus first
   | (have hE : ofV hm n = (ad0, false) := if_pos h1_4
      rw [hE]
      exact ⟨(), rfl, hw.base, (hw.weak (List.nil_sublist _) (fun s hs => hs)).toNews⟩)
   | (have hE : ofV hm n = (((cA hm (a6 n)).getD ct).ad, (cA hm (a6 n)).isSome) := if_neg (by rw [h1_4]; decide)
      rw [hE]
      exact ⟨(), rfl, hw.base, (hw.weak (List.nil_sublist _) (fun s hs => hs)).toNews⟩)
   | (trace_state; fail)
 refine bZ (i := 10) rfl rfl rfl (fun _ _ _ => a7 (by kernel_rfl)) rfl ?_ ?_
 refine bz bh rfl rfl (fun b3 => ?_)
 refine ae ?_
 refine bc (bS 1) ?_
 refine bD (i := 6) rfl rfl rfl (fun _ _ _ => a7 (by kernel_rfl)) (by kernel_rfl) rfl ?_
 refine ap (ez Tryz.underlying143 (cV Tryz.underlying26) bh rfl rfl (fun w hw => hw.sh _ (List.mem_of_getElem? (i := 1) rfl))) rfl rfl ?_
 refine ae ?_
 refine bc (bS 1) ?_
 refine f0 (t := 23) (.tuple #[.agg (d4 ((cA hm (a6 n)).getD ct)).toArray, .bool (cA hm (a6 n)).isSome]) rfl fV ?_
 refine ax (i := 7) rfl ah (ak rfl) (bS 1) aw rfl (aa ar) (by kernel_rfl) rfl ?_
 refine ax (i := 8) rfl ah (aI rfl rfl) (bS 1) aw rfl (aa ar) (by kernel_rfl) rfl ?_
 refine ax (i := 9) rfl ah (aI rfl rfl) (bS 1) aw rfl (aa ar) (by kernel_rfl) rfl ?_
 refine bD (i := 11) rfl rfl rfl (fun _ _ _ => a7 (by kernel_rfl)) (by kernel_rfl) rfl ?_
 refine aT bh rfl rfl rfl .z rfl rfl rfl rfl ?_
 refine ae ?_
 refine bc (bS 1) ?_
 refine ax (i := 12) rfl ah (ai rfl) (bS 1) aw rfl (aa ar) (by kernel_rfl) rfl ?_
 refine bQ (by kernel_rfl) ?_
 refine aj ?_
 refine ao ?_
 refine ab ?_
 refine ap (aB dU rfl) rfl rfl ?_
 refine ap (aK 0 aN rfl rfl rfl rfl) rfl rfl ?_
 refine ap (ak rfl) rfl rfl ?_
 refine aT aN rfl rfl rfl (.s (.z)) rfl rfl rfl rfl ?_
 refine ap (ai rfl) rfl rfl ?_
 refine ae ?_
 refine aj ?_
 refine aF ?_
 refine dp (rs := [.cell 4 29, .tmp 5]) rfl (bA 1 aN rfl rfl rfl rfl (cC rfl bR)) rfl (fun w hw => ?_)
 focus first
   | (have hE : ofV hm n = (ad0, false) := if_pos h1_4
      rw [hE]
      exact ⟨(), rfl, hw.base, (hw.weak (List.nil_sublist _) (fun s hs => hs)).toNews⟩)
   | (have hE : ofV hm n = (((cA hm (a6 n)).getD ct).ad, (cA hm (a6 n)).isSome) := if_neg (by rw [h1_4]; decide)
      rw [hE]
      exact ⟨(), rfl, hw.base, (hw.weak (List.nil_sublist _) (fun s hs => hs)).toNews⟩)
   | (trace_state; fail)
 exact d8
 refine bZ (i := 10) rfl rfl rfl (fun _ _ _ => a7 (by kernel_rfl)) rfl ?_ ?_
 refine bz bh rfl rfl (fun b4 => ?_)
 refine ae ?_
 refine bc (bS 1) ?_
 refine bD (i := 5) rfl rfl rfl (br rfl gl) (by kernel_rfl) rfl ?_
 refine aS rfl gl (dK _ (by omega)) rfl ?_
 refine ae ?_
 refine bc (bS 1) ?_
 refine bD (i := 6) rfl rfl rfl (fun _ _ _ => a7 (by kernel_rfl)) (by kernel_rfl) rfl ?_
 refine ap (ez Tryz.underlying143 (cV Tryz.underlying26) bh rfl rfl (fun w hw => hw.sh _ (List.mem_of_getElem? (i := 1) rfl))) rfl rfl ?_
 refine ae ?_
 refine bc (bS 1) ?_
 refine f0 (t := 23) (.tuple #[.agg (d4 ((cA hm (a6 n)).getD ct)).toArray, .bool (cA hm (a6 n)).isSome]) rfl fV ?_
 refine ax (i := 7) rfl ah (ak rfl) (bS 1) aw rfl (aa ar) (by kernel_rfl) rfl ?_
 refine ax (i := 8) rfl ah (aI rfl rfl) (bS 1) aw rfl (aa ar) (by kernel_rfl) rfl ?_
 refine ax (i := 9) rfl ah (aI rfl rfl) (bS 1) aw rfl (aa ar) (by kernel_rfl) rfl ?_
 refine bD (i := 11) rfl rfl rfl (fun _ _ _ => a7 (by kernel_rfl)) (by kernel_rfl) rfl ?_
 refine aT bh rfl rfl rfl .z rfl rfl rfl rfl ?_
 refine ae ?_
 refine bc (bS 1) ?_
 refine ax (i := 12) rfl ah (ai rfl) (bS 1) aw rfl (aa ar) (by kernel_rfl) rfl ?_
 refine bQ (by kernel_rfl) ?_
 refine aj ?_
 refine ao ?_
 refine ab ?_
 refine ap (aB dU rfl) rfl rfl ?_
 refine ap (aK 0 aN rfl rfl rfl rfl) rfl rfl ?_
 refine ap (ak rfl) rfl rfl ?_
 refine aT aN rfl rfl rfl (.s (.z)) rfl rfl rfl rfl ?_
 refine ap (ai rfl) rfl rfl ?_
 refine ae ?_
 refine aj ?_
 refine aF ?_
 refine dp (rs := [.cell 4 29, .tmp 5]) rfl (bA 1 aN rfl rfl rfl rfl (cC rfl bR)) rfl (fun w hw => ?_)
 focus first
   | (have hE : ofV hm n = (ad0, false) := if_pos h1_4
      rw [hE]
      exact ⟨(), rfl, hw.base, (hw.weak (List.nil_sublist _) (fun s hs => hs)).toNews⟩)
   | (have hE : ofV hm n = (((cA hm (a6 n)).getD ct).ad, (cA hm (a6 n)).isSome) := if_neg (by rw [h1_4]; decide)
      rw [hE]
      exact ⟨(), rfl, hw.base, (hw.weak (List.nil_sublist _) (fun s hs => hs)).toNews⟩)
   | (trace_state; fail)
 exact d8
 refine az rfl rfl ?_
 refine ap (bJ rfl) rfl rfl ?_
 refine ap (aW rfl rfl) rfl rfl ?_
 refine ae ?_
 refine aj ?_
 refine ay rfl ?_
 refine ao ?_
 refine ab ?_
 refine ap (bN rfl (e6)) rfl rfl ?_
 refine aT aN rfl rfl rfl .z rfl rfl rfl rfl ?_
 refine ap (ai rfl) rfl rfl ?_
 refine ae ?_
 refine aj ?_
 refine aF ?_
 refine aA ?_
 refine dp (rs := [.cell 4 29, .tmp 5]) rfl (bA 0 aN rfl rfl rfl rfl (cC rfl bR)) rfl (fun w hw => ?_)
 focus first
   | (have hE : ofV hm n = (ad0, false) := if_pos h1_4
      rw [hE]
      exact ⟨(), rfl, hw.base, (hw.weak (List.nil_sublist _) (fun s hs => hs)).toNews⟩)
   | (have hE : ofV hm n = (((cA hm (a6 n)).getD ct).ad, (cA hm (a6 n)).isSome) := if_neg (by rw [h1_4]; decide)
      rw [hE]
      exact ⟨(), rfl, hw.base, (hw.weak (List.nil_sublist _) (fun s hs => hs)).toNews⟩)
   | (trace_state; fail)

set_option maxRecDepth 100000 in
theorem c_vHost (v : Vp) (hm : Hm) (am : Am) (a : Ad) : RC Tryz.prog 45 #[.pointer (some ⟨v.b, 0, none⟩), .agg (dN a).toArray] [Ch.row v.b (vpC v) 146, Ch.mp v.rh cy cQ hm, Ch.mp v.ra fx cy am] (α := Unit) (fun _ => .tuple #[.string (ba (gH hm am a).1), .bool (gH hm am a).2]) (fun _ => []) := by
 refine bi (args := [.pointer (some ⟨v.b, 0, none⟩), .agg (dN a).toArray]) 28 Tryz.func45 rfl rfl rfl (fun w0 => ?_)
 refine ao ?_
 refine ab ?_
 refine bE rfl rfl rfl (fun b1 => ?_)
 refine ap (ai rfl) rfl rfl ?_
 refine ap (ai rfl) rfl rfl ?_
 refine ae ?_
 refine aj ?_
 refine ao ?_
 refine ao ?_
 refine ab ?_
 refine ap (ak rfl) rfl rfl ?_
 refine ap (eH Tryz.underlying68 rfl rfl) rfl rfl ?_
 refine bV (t := 9) (.bool false) rfl (congrArg Value.bool rfl) ?_
 refine ae ?_
 refine aj ?_
 refine au rfl ?_
 refine aH ?_
 refine aj ?_
 refine ao ?_
 refine de 11 rfl mixed ?_
 refine ax (i := 0) rfl ah (ak rfl) aw aw rfl (aa ar) (by kernel_rfl) rfl ?_
 refine ax (i := 1) rfl ah (aR rfl) aw aw rfl (aa ar) (by kernel_rfl) rfl ?_
 refine ax (i := 2) rfl ah (aB gb rfl) aw aw rfl (aa ar) (by kernel_rfl) rfl ?_
 refine ax (i := 3) rfl ah (bp 0 ty_144 rfl rfl rfl) aw aw rfl (aa ar) (by kernel_rfl) rfl ?_
 refine ax (i := 4) rfl ah (aK 0 aN rfl rfl rfl rfl) aw aw rfl (aa ar) (by kernel_rfl) rfl ?_
 refine bD (i := 5) rfl rfl rfl (fun _ _ _ => a7 (by kernel_rfl)) (by kernel_rfl) rfl ?_
 refine ap (ez Tryz.underlying144 i4 bL rfl rfl (fun w hw => hw.sh _ (List.mem_of_getElem? (i := 2) rfl))) rfl rfl ?_
 refine ae ?_
 refine bc aw ?_
 refine f0 (t := 16) (.tuple #[.string (ba ((cA am a).getD [])), .bool (cA am a).isSome]) rfl look2_n ?_
 refine ax (i := 6) rfl ah (ak rfl) aw aw rfl (aa ar) (by kernel_rfl) rfl ?_
 refine ax (i := 7) rfl ah (aI rfl rfl) aw aw rfl (aa ar) (by kernel_rfl) rfl ?_
 refine ax (i := 8) rfl ah (aI rfl rfl) aw aw rfl (aa ar) (by kernel_rfl) rfl ?_
 refine gT (t := 18) rfl (fun h3_8 => ?_) (fun h3_8 => ?_)
 refine ax (i := 9) rfl ah (ai rfl) aw aw rfl (aa ar) (by kernel_rfl) rfl ?_
 refine ax (i := 10) rfl ah (ai rfl) aw aw rfl (aa ar) (by kernel_rfl) rfl ?_
 refine bQ (by kernel_rfl) ?_
 refine aj ?_
 refine ao ?_
 refine ao ?_
 refine ab ?_
 refine ap (ak rfl) rfl rfl ?_
 refine ap (bJ rfl) rfl rfl ?_
 refine ae ?_
 refine aj ?_
 refine au rfl ?_
 refine aH ?_
 refine aj ?_
 refine ao ?_
 refine ab ?_
 refine ap (ak rfl) rfl rfl ?_
 refine ap (aR rfl) rfl rfl ?_
 refine ap (aB dA rfl) rfl rfl ?_
 refine ap (bp 0 eE rfl rfl rfl) rfl rfl ?_
 refine ap (ak rfl) rfl rfl ?_
 refine ap (iR Tryz.underlying143 (cV Tryz.underlying26) bh rfl rfl (fun w hw => hw.sh _ (List.mem_of_getElem? (i := 1) rfl))) rfl rfl ?_
 refine bV (t := 26) (.agg (d4 ((cA hm ((cA am a).getD [])).getD ct)).toArray) rfl look1_hd ?_
 refine ap (y_fieldv (v := .string (ba ((cA hm ((cA am a).getD [])).getD ct).host)) rfl (fun w => by kernel_rfl)) rfl rfl ?_
 refine ap (ai rfl) rfl rfl ?_
 refine ap (ai rfl) rfl rfl ?_
 refine ae ?_
 refine aj ?_
 refine aF ?_
 refine aJ (ts := [4, 5]) rfl rfl rfl (fun w hw => ?_)
 focus first
   | (have hE : gH hm am a = ([], false) := if_pos h3_8
      rw [hE]
      exact ⟨(), rfl, hw.base, (hw.weak (List.nil_sublist _) (fun s hs => hs)).toNews⟩)
   | (have hE : gH hm am a = (((cA hm ((cA am a).getD [])).getD ct).host, true) := if_neg (by rw [h3_8]; decide)
      rw [hE]
      exact ⟨(), rfl, hw.base, (hw.weak (List.nil_sublist _) (fun s hs => hs)).toNews⟩)
   | (trace_state; fail)
 refine ax (i := 9) rfl ah (ai rfl) aw aw rfl (aa ar) (by kernel_rfl) rfl ?_
 refine ax (i := 10) rfl ah (ai rfl) aw aw rfl (aa ar) (by kernel_rfl) rfl ?_
 refine bQ (by kernel_rfl) ?_
 refine aj ?_
 refine ao ?_
 refine ao ?_
 refine ab ?_
 refine ap (ak rfl) rfl rfl ?_
 refine ap (bJ rfl) rfl rfl ?_
 refine ae ?_
 refine aj ?_
 refine ay rfl ?_
 refine ao ?_
 refine ab ?_
 refine ap (ai rfl) rfl rfl ?_
 refine ap (ai rfl) rfl rfl ?_
 refine ae ?_
 refine aj ?_
 refine aF ?_
 refine aA ?_
 refine aJ (ts := [4, 5]) rfl rfl rfl (fun w hw => ?_)
 focus first
   | (have hE : gH hm am a = ([], false) := if_pos h3_8
      rw [hE]
      exact ⟨(), rfl, hw.base, (hw.weak (List.nil_sublist _) (fun s hs => hs)).toNews⟩)
   | (have hE : gH hm am a = (((cA hm ((cA am a).getD [])).getD ct).host, true) := if_neg (by rw [h3_8]; decide)
      rw [hE]
      exact ⟨(), rfl, hw.base, (hw.weak (List.nil_sublist _) (fun s hs => hs)).toNews⟩)
   | (trace_state; fail)

theorem gX {n : aV} {slots : Nat} {e : Int} (h : e ∈ dZ n slots) : 0 ≤ e ∧ e < slots := by
  obtain ⟨k, hk, rfl⟩ := List.mem_iff_getElem.1 h
  rw [dh] at hk
  have h1 := fC n slots k hk
  rw [List.getD_eq_getElem?_getD, List.getElem?_eq_getElem (by rw [dh]; exact hk)] at h1
  have h2 := atH_rng (n := n) (slots := slots) (by omega) k
  have h3 : (dZ n slots)[k]'(by rw [dh]; exact hk) = gj n slots k := h1
  rw [h3]; exact h2
theorem atR_lo (r : Rg) (i : Int) : 0 ≤ (atR r i).1.lo := by
  unfold atR
  split
  · exact ad0_lo
  · exact addA_lo _ _

set_option maxRecDepth 100000 in
set_option maxHeartbeats 4000000 in
theorem c_vGive (v : Vp) (hm : Hm) (am : Am) (n : aV) (hv : VOk v) (hn : n.length ≤ 1000000000) (hml : hm.length ≤ 1000000) : UC Tryz.prog 34 #[.pointer (some ⟨v.b, 0, none⟩), .string (ba n)] [Ch.row v.b (vpC v) 146, Ch.rd v.A 4 dR v.res] (vmC v hm am) (α := Unit) (fun o => .tuple #[.agg (dN (bK v hm am n).1.1).toArray, .int .i64 (bK v hm am n).1.2]) (fun o => vmC v (bK v hm am n).2.1 (bK v hm am n).2.2) := by
 refine uc_of_WM (args := [.pointer (some ⟨v.b, 0, none⟩), .string (ba n)]) 81 Tryz.func34 rfl rfl rfl (fun w0 => ?_)
 refine cH (fun w h => h.untwo) ?_
 refine ao ?_
 refine ab ?_
 refine bE rfl rfl rfl (fun b1 => ?_)
 refine bE rfl rfl rfl (fun b2 => ?_)
 refine bz aN rfl rfl (fun b3 => ?_)
 refine bz eA rfl rfl (fun b4 => ?_)
 refine ae ?_
 refine aj ?_
 refine ao ?_
 refine aP ?_
 refine ao ?_
 refine ab ?_
 refine ap (aM 3 fF rfl rfl rfl) rfl rfl ?_
 refine ap (eH Tryz.underlying68 rfl rfl) rfl rfl ?_
 refine bV (t := 14) (.bool false) rfl (congrArg Value.bool rfl) ?_
 refine ap (ai rfl) rfl rfl ?_
 refine ae ?_
 refine aj ?_
 refine au rfl ?_
 refine ao ?_
 refine ab ?_
 refine ap (aM 2 bL rfl rfl rfl) rfl rfl ?_
 refine aS rfl ent_95 (c_vhost _) rfl ?_
 refine bk (t := 18) rfl (fun h3_1 => ?_) (fun h3_1 => ?_)
 refine ap (bJ rfl) rfl rfl ?_
 refine ap (ai rfl) rfl rfl ?_
 refine ae ?_
 refine aj ?_
 refine au rfl ?_
 refine aH ?_
 refine bq ?_
 refine aj ?_
 refine ao ?_
 refine ab ?_
 refine ap (aM 2 bL rfl rfl rfl) rfl rfl ?_
 refine aS rfl gl (dK _ (by omega)) rfl ?_
 refine bz bL rfl rfl (fun b5 => ?_)
 refine aT bL rfl rfl rfl .z rfl rfl rfl rfl ?_
 refine ae ?_
 refine aj ?_
 refine ao ?_
 refine ao ?_
 refine w_drawV 12 mixed ?_
 refine bx (i := 0) rfl ah (aM 4 fF rfl rfl rfl) aw aw rfl (aa (aa ar)) (by kernel_rfl) rfl ?_
 refine bx (i := 1) rfl ah (aR rfl) aw aw rfl (aa (aa ar)) (by kernel_rfl) rfl ?_
 refine bx (i := 2) rfl ah (aB dA rfl) aw aw rfl (aa (aa ar)) (by kernel_rfl) rfl ?_
 refine bx (i := 3) rfl ah (bp 0 eE rfl rfl rfl) aw aw rfl (aa (aa ar)) (by kernel_rfl) rfl ?_
 refine bx (i := 4) rfl ah (aM 0 bL rfl rfl rfl) aw aw rfl (aa (aa ar)) (by kernel_rfl) rfl ?_
 refine v_many (js := [5, 9]) (by kernel_rfl) rfl ?_
 refine wrv_cons (i := 5) rfl rfl ?_ ?_
 refine ap (ez Tryz.underlying143 (cV Tryz.underlying26) bh rfl rfl (fun w hw => hw.own _ (List.mem_of_getElem? (i := 5) rfl))) rfl rfl ?_
 refine ae ?_
 refine dg aw ?_
 refine wv_as (t := 29) (.tuple #[.agg (d4 ((cA hm (a6 n)).getD ct)).toArray, .bool (cA hm (a6 n)).isSome]) rfl fV ?_
 refine bx (i := 6) rfl ah (ak rfl) aw aw rfl (aa (aa ar)) (by kernel_rfl) rfl ?_
 refine bx (i := 7) rfl ah (aI rfl rfl) aw aw rfl (aa (aa ar)) (by kernel_rfl) rfl ?_
 refine bx (i := 8) rfl ah (aI rfl rfl) aw aw rfl (aa (aa ar)) (by kernel_rfl) rfl ?_
 refine wv_splitb (t := 31) rfl (fun h6_8 => ?_) (fun h6_8 => ?_)
 refine eB (i := 9) rfl (by kernel_rfl) rfl ?_
 refine bz bh rfl rfl (fun b6 => ?_)
 refine ae ?_
 refine dg (bS 1) ?_
 refine eB (i := 10) rfl (by kernel_rfl) rfl ?_
 refine aT bh rfl rfl rfl .z rfl rfl rfl rfl ?_
 refine ae ?_
 refine dg (bS 1) ?_
 refine bx (i := 11) rfl ah (ai rfl) (bS 1) aw rfl (aa (aa ar)) (by kernel_rfl) rfl ?_
 refine gP (by kernel_rfl) ?_
 refine aj ?_
 refine ao ?_
 refine ab ?_
 refine ap (ak rfl) rfl rfl ?_
 refine ae ?_
 refine aj ?_
 refine ay rfl ?_
 refine ao ?_
 refine ab ?_
 refine ap (aB dU rfl) rfl rfl ?_
 refine ap (aK 0 aN rfl rfl rfl rfl) rfl rfl ?_
 refine aT aN rfl rfl rfl (.s (.s (.s (.z)))) rfl rfl rfl rfl ?_
 refine aT eA rfl rfl rfl (.s (.s (.z))) rfl rfl rfl rfl ?_
 refine ae ?_
 refine aj ?_
 refine aF ?_
 refine aA ?_
 refine gg ?_
 refine eN (rs := [.cell 4 29, .cell 5 40]) rfl (bA 3 aN rfl rfl rfl rfl (fd 2 eA rfl rfl rfl bR)) (fun w hw => ?_)
 obtain ⟨h1, h2, h3⟩ := (hw.weak (.cons _ (.cons _ (.cons _ (.cons _ (.cons _ (.cons _ (.cons_cons _ (.cons_cons _ .slnil)))))))) (fun s hs => hs)).f1.f1.two.uc
 focus first
   | (have hE := cM (v := v) (hm := hm) (am := am) h3_1
      rw [hE]
      exact ⟨(), rfl, h1, h2, h3⟩)
   | (have hE := cF (v := v) (am := am) h3_1 h6_8
      rw [hE]
      exact ⟨(), rfl, h1, h2, h3⟩)
   | (have hE := cS (am := am) h3_1 h6_8 h9_2
      rw [hE]
      exact ⟨(), rfl, h1, h2, h3⟩)
   | (have hE := cp (am := am) h3_1 h6_8 h9_2 (show bO v am n = none from hpf)
      rw [hE]
      exact ⟨(), rfl, h1, h2, h3⟩)
   | (have hq : bO v am n = g := by
        rw [bO, hxs, List.find?_append, ← hq9]
        cases g with
        | none => cases hqs
        | some y => rfl
      have hE := cp (am := am) h3_1 h6_8 h9_2 hq
      rw [hqs, if_pos rfl] at hE
      rw [hE]
      exact ⟨(), rfl, h1, h2, h3⟩)
   | (trace_state; fail)
 refine eB (i := 9) rfl (by kernel_rfl) rfl ?_
 refine bz bh rfl rfl (fun b7 => ?_)
 refine ae ?_
 refine dg (bS 1) ?_
 refine eB (i := 10) rfl (by kernel_rfl) rfl ?_
 refine aT bh rfl rfl rfl .z rfl rfl rfl rfl ?_
 refine ae ?_
 refine dg (bS 1) ?_
 refine bx (i := 11) rfl ah (ai rfl) (bS 1) aw rfl (aa (aa ar)) (by kernel_rfl) rfl ?_
 refine gP (by kernel_rfl) ?_
 refine aj ?_
 refine ao ?_
 refine ab ?_
 refine ap (ak rfl) rfl rfl ?_
 refine ae ?_
 refine aj ?_
 refine au rfl ?_
 refine aH ?_
 refine aj ?_
 refine ao ?_
 refine ao ?_
 refine ab ?_
 refine ap (aM 5 fF rfl rfl rfl) rfl rfl ?_
 refine bv rfl ent_35 rfl (c_vFree v hm hv hml) (fun w hw => (aQ (cI 0 rfl hw) (aQ (dL 6 rfl hw) bf))) ?_
 refine ap (dB rfl rfl) rfl rfl ?_
 refine aC (t := 37) rfl (fun h9_2 => ?_) (fun h9_2 => ?_)
 refine ae ?_
 refine aj ?_
 refine ay rfl ?_
 refine ao ?_
 refine ab ?_
 refine ap (bN rfl (e6)) rfl rfl ?_
 refine aT aN rfl rfl rfl (.s (.s (.s (.z)))) rfl rfl rfl rfl ?_
 refine aT eA rfl rfl rfl (.s (.s (.z))) rfl rfl rfl rfl ?_
 refine ae ?_
 refine aj ?_
 refine aF ?_
 refine aA ?_
 refine gg ?_
 refine eN (rs := [.cell 4 29, .cell 5 40]) rfl (bA 3 aN rfl rfl rfl rfl (fd 2 eA rfl rfl rfl bR)) (fun w hw => ?_)
 obtain ⟨h1, h2, h3⟩ := (hw.weak (.cons _ (.cons _ (.cons _ (.cons _ (.cons _ (.cons _ (.cons_cons _ (.cons_cons _ .slnil)))))))) (fun s hs => hs)).f1.f1.two.uc
 focus first
   | (have hE := cM (v := v) (hm := hm) (am := am) h3_1
      rw [hE]
      exact ⟨(), rfl, h1, h2, h3⟩)
   | (have hE := cF (v := v) (am := am) h3_1 h6_8
      rw [hE]
      exact ⟨(), rfl, h1, h2, h3⟩)
   | (have hE := cS (am := am) h3_1 h6_8 h9_2
      rw [hE]
      exact ⟨(), rfl, h1, h2, h3⟩)
   | (have hE := cp (am := am) h3_1 h6_8 h9_2 (show bO v am n = none from hpf)
      rw [hE]
      exact ⟨(), rfl, h1, h2, h3⟩)
   | (have hq : bO v am n = g := by
        rw [bO, hxs, List.find?_append, ← hq9]
        cases g with
        | none => cases hqs
        | some y => rfl
      have hE := cp (am := am) h3_1 h6_8 h9_2 hq
      rw [hqs, if_pos rfl] at hE
      rw [hE]
      exact ⟨(), rfl, h1, h2, h3⟩)
   | (trace_state; fail)
 refine ae ?_
 refine aj ?_
 refine au rfl ?_
 refine aH ?_
 refine aj ?_
 refine ao ?_
 refine ao ?_
 have hsl := eD v.rg
 refine w_drawV 8 mixed ?_
 refine bx (i := 0) rfl ah (aM 4 bL rfl rfl rfl) aw aw rfl (aa (aa ar)) (by kernel_rfl) rfl ?_
 refine bx (i := 1) rfl ah (aM 5 fF rfl rfl rfl) aw aw rfl (aa (aa ar)) (by kernel_rfl) rfl ?_
 refine bx (i := 2) rfl ah (aR rfl) aw aw rfl (aa (aa ar)) (by kernel_rfl) rfl ?_
 refine bx (i := 3) rfl ah (aB f9 rfl) aw aw rfl (aa (aa ar)) (by kernel_rfl) rfl ?_
 refine bx (i := 4) rfl ah (aB d7 rfl) aw aw rfl (aa (aa ar)) (by kernel_rfl) rfl ?_
 refine bx (i := 5) rfl ah (dD 0 cm rfl rfl rfl rfl) aw aw rfl (aa (aa ar)) (by kernel_rfl) rfl ?_
 refine eB (i := 6) rfl (by kernel_rfl) rfl ?_
 refine aS rfl ent_97 (c_rSize v.rg hv.rg.lo.1) rfl ?_
 refine ae ?_
 refine dg aw ?_
 refine eB (i := 7) rfl (by kernel_rfl) rfl ?_
 refine i8 rfl ent_96 rfl (iT n (bj v.rg)) (fun w hw => bf) (fun ⟨p7, q7⟩ => ?_)
 refine ae ?_
 refine dg (bS 2) ?_
 refine wv_heap (fun w h => h.freeze.freeze) ?_
 refine gP (by kernel_rfl) ?_
 refine aj ?_
 refine aP ?_
 refine cH (fun w h => h.weak (.cons _ (.cons_cons _ (.cons_cons _ (.cons_cons _ (.cons_cons _ (.cons_cons _ (.cons_cons _ (.cons_cons _ .slnil)))))))) (fun s hs => hs)) ?_
 refine w_range (σ := Option Int) (fun pre g => g = none ∧ pre.find? (fun i => cX v.res am (atR v.rg i).1) = none) (fun c pre g => c = .ret ∧ g = pre.find? (fun i => cX v.res am (atR v.rg i).1) ∧ g.isSome = true) (fun g => [Ch.row b5 [.string (ba (a6 n))] 26, Ch.row b4 [.int .i64 0] 40, Ch.row b3 (dN (adO v g)) 29, Ch.row b2 [.string (ba n)] 26, Ch.row b1 [.pointer (some ⟨v.b, 0, none⟩)] 68, Ch.mp v.rh cy cQ (hmO v hm n g), Ch.mp v.ra fx cy (amO v am n g)]) (none) rfl rfl ent_164 (hX n (bj v.rg) p7 q7 hn (by omega) (by omega)) (List.forall_mem_cons.2 ⟨.head _, List.forall_mem_cons.2 ⟨.tail _ (.head _), nofun⟩⟩) rfl (fun _ => rfl) (⟨rfl, rfl⟩) rfl (fun pre e post g hxs hI lr D r hr okb wb => ?_) (fun g D0 hI => ?_) (fun c pre post g D0 hxs hI => ?_)
 obtain ⟨rfl, hpf⟩ := hI
 have her := gX (n := n) (slots := bj v.rg) (e := e) (by rw [hxs]; simp)
 refine ab ?_
 refine ap (ai rfl) rfl rfl ?_
 refine ae ?_
 refine gW rfl hr .z ?_
 refine aP ?_
 refine ao ?_
 refine ab ?_
 refine ap (aM 6 fF rfl rfl rfl) rfl rfl ?_
 refine ap (aR rfl) rfl rfl ?_
 refine ap (aB f9 rfl) rfl rfl ?_
 refine ap (aB d7 rfl) rfl rfl ?_
 refine ap (dD 2 cm rfl rfl rfl rfl) rfl rfl ?_
 refine ap (ak rfl) rfl rfl ?_
 refine bv rfl ent_98 rfl (c_rAt v.rg e hv.rg (by omega)) (fun w hw => bf) ?_
 refine ap (ak rfl) rfl rfl ?_
 refine ap (aI rfl rfl) rfl rfl ?_
 refine ap (aI rfl rfl) rfl rfl ?_
 refine bz aN rfl rfl (fun b9 => ?_)
 refine aT aN rfl rfl rfl .z rfl rfl rfl rfl ?_
 refine ap (ai rfl) rfl rfl ?_
 refine ae ?_
 refine aj ?_
 refine ao ?_
 refine ab ?_
 refine ap (aM 7 fF rfl rfl rfl) rfl rfl ?_
 refine ap (aK 0 aN rfl rfl rfl rfl) rfl rfl ?_
 refine bv rfl ent_99 rfl (c_vfree v am (atR v.rg e).1 hv (atR_lo _ _)) (fun w hw => (aQ (cI 2 rfl hw) (aQ (cI 3 rfl hw) (aQ (dL 9 rfl hw) bf)))) ?_
 refine bk (t := 60) rfl (fun h14_2 => ?_) (fun h14_2 => ?_)
 refine ae ?_
 refine aj ?_
 refine ay rfl ?_
 refine ao ?_
 refine w_drawVA 20 mixed (fun w h => ((h.anymp (.s (.s (.s (.s (.s (.s (.s (.s (.z)))))))))).anymp (.s (.s (.s (.s (.s (.s (.s (.s (.s (.z)))))))))))) ?_
 refine bx (i := 0) rfl ah (aM 7 fF rfl rfl rfl) (fun w h => ((h.anymp (.s (.s (.s (.s (.s (.s (.s (.s (.z)))))))))).anymp (.s (.s (.s (.s (.s (.s (.s (.s (.s (.z)))))))))))) aw rfl (aa (aq cR)) (by kernel_rfl) rfl ?_
 refine bx (i := 1) rfl ah (aR rfl) (fun w h => ((h.anymp (.s (.s (.s (.s (.s (.s (.s (.s (.z)))))))))).anymp (.s (.s (.s (.s (.s (.s (.s (.s (.s (.z)))))))))))) aw rfl (aa (aq cR)) (by kernel_rfl) rfl ?_
 refine bx (i := 2) rfl ah (aB dA rfl) (fun w h => ((h.anymp (.s (.s (.s (.s (.s (.s (.s (.s (.z)))))))))).anymp (.s (.s (.s (.s (.s (.s (.s (.s (.s (.z)))))))))))) aw rfl (aa (aq cR)) (by kernel_rfl) rfl ?_
 refine bx (i := 3) rfl ah (bp 2 eE rfl rfl rfl) (fun w h => ((h.anymp (.s (.s (.s (.s (.s (.s (.s (.s (.z)))))))))).anymp (.s (.s (.s (.s (.s (.s (.s (.s (.s (.z)))))))))))) aw rfl (aa (aq cR)) (by kernel_rfl) rfl ?_
 refine bx (i := 4) rfl ah (aM 3 bL rfl rfl rfl) (fun w h => ((h.anymp (.s (.s (.s (.s (.s (.s (.s (.s (.z)))))))))).anymp (.s (.s (.s (.s (.s (.s (.s (.s (.s (.z)))))))))))) aw rfl (aa (aq cR)) (by kernel_rfl) rfl ?_
 refine bx (i := 5) rfl ah (aM 7 fF rfl rfl rfl) (fun w h => ((h.anymp (.s (.s (.s (.s (.s (.s (.s (.s (.z)))))))))).anymp (.s (.s (.s (.s (.s (.s (.s (.s (.s (.z)))))))))))) aw rfl (aa (aq cR)) (by kernel_rfl) rfl ?_
 refine bx (i := 6) rfl ah (aR rfl) (fun w h => ((h.anymp (.s (.s (.s (.s (.s (.s (.s (.s (.z)))))))))).anymp (.s (.s (.s (.s (.s (.s (.s (.s (.s (.z)))))))))))) aw rfl (aa (aq cR)) (by kernel_rfl) rfl ?_
 refine bx (i := 7) rfl ah (aB gb rfl) (fun w h => ((h.anymp (.s (.s (.s (.s (.s (.s (.s (.s (.z)))))))))).anymp (.s (.s (.s (.s (.s (.s (.s (.s (.s (.z)))))))))))) aw rfl (aa (aq cR)) (by kernel_rfl) rfl ?_
 refine bx (i := 8) rfl ah (bp 2 ty_144 rfl rfl rfl) (fun w h => ((h.anymp (.s (.s (.s (.s (.s (.s (.s (.s (.z)))))))))).anymp (.s (.s (.s (.s (.s (.s (.s (.s (.s (.z)))))))))))) aw rfl (aa (aq cR)) (by kernel_rfl) rfl ?_
 refine bx (i := 9) rfl ah (aK 0 aN rfl rfl rfl rfl) (fun w h => ((h.anymp (.s (.s (.s (.s (.s (.s (.s (.s (.z)))))))))).anymp (.s (.s (.s (.s (.s (.s (.s (.s (.s (.z)))))))))))) aw rfl (aa (aq cR)) (by kernel_rfl) rfl ?_
 refine bx (i := 10) rfl ah (aM 6 bL rfl rfl rfl) (fun w h => ((h.anymp (.s (.s (.s (.s (.s (.s (.s (.s (.z)))))))))).anymp (.s (.s (.s (.s (.s (.s (.s (.s (.s (.z)))))))))))) aw rfl (aa (aq cR)) (by kernel_rfl) rfl ?_
 refine bx (i := 11) rfl ah (aK 0 aN rfl rfl rfl rfl) (fun w h => ((h.anymp (.s (.s (.s (.s (.s (.s (.s (.s (.z)))))))))).anymp (.s (.s (.s (.s (.s (.s (.s (.s (.s (.z)))))))))))) aw rfl (aa (aq cR)) (by kernel_rfl) rfl ?_
 refine bx (i := 12) rfl ah (bN rfl (gS _ _ _ _)) (fun w h => ((h.anymp (.s (.s (.s (.s (.s (.s (.s (.s (.z)))))))))).anymp (.s (.s (.s (.s (.s (.s (.s (.s (.s (.z)))))))))))) aw rfl (aa (aq cR)) (by kernel_rfl) rfl ?_
 refine bx (i := 13) rfl ah (aM 3 bL rfl rfl rfl) (fun w h => ((h.anymp (.s (.s (.s (.s (.s (.s (.s (.s (.z)))))))))).anymp (.s (.s (.s (.s (.s (.s (.s (.s (.s (.z)))))))))))) aw rfl (aa (aq cR)) (by kernel_rfl) rfl ?_
 refine eB (i := 14) rfl (by kernel_rfl) rfl ?_
 refine iJ (encK := cy) (encV := cQ) Tryz.underlying143 (cV Tryz.underlying26) bh rfl rfl (gv h6_8) (fun st => (.s (.s (.s (.s (.s (.s (.s (.s (.z)))))))))) rfl (fun st9 => ?_)
 refine ae ?_
 refine dg (fun w h => ((h.anymq (v0 := ct) rfl (.s (.s (.s (.s (.s (.s (.s (.s (.z)))))))))).anymp (.s (.s (.s (.s (.s (.s (.s (.s (.s (.z)))))))))))) ?_
 refine bx (i := 15) rfl ah (aI rfl rfl) (fun w h => ((h.anymq (v0 := ct) rfl (.s (.s (.s (.s (.s (.s (.s (.s (.z)))))))))).anymp (.s (.s (.s (.s (.s (.s (.s (.s (.s (.z)))))))))))) aw rfl (aa (aq cR)) (by kernel_rfl) rfl ?_
 refine eB (i := 16) rfl (by kernel_rfl) rfl ?_
 refine o_entSt (encK := cy) (encV := cQ) (v := (⟨n, (atR v.rg e).1⟩ : Hd)) rfl rfl rfl (.s (.s (.s (.s (.s (.s (.s (.s (.z))))))))) ?_
 refine ae ?_
 refine dg (fun w h => ((h.anymp (.s (.s (.s (.s (.s (.s (.s (.s (.z)))))))))).anymp (.s (.s (.s (.s (.s (.s (.s (.s (.s (.z)))))))))))) ?_
 refine eB (i := 17) rfl (by kernel_rfl) rfl ?_
 refine iJ (encK := fx) (encV := cy) Tryz.underlying144 i4 bL rfl rfl (ir h14_2) (fun st => (.s (.s (.s (.s (.s (.s (.s (.s (.s (.z))))))))))) rfl (fun st10 => ?_)
 refine ae ?_
 refine dg (fun w h => ((h.anymp (.s (.s (.s (.s (.s (.s (.s (.s (.z)))))))))).anymq (v0 := ([] : aV)) rfl (.s (.s (.s (.s (.s (.s (.s (.s (.s (.z)))))))))))) ?_
 refine bx (i := 18) rfl ah (aI rfl rfl) (fun w h => ((h.anymp (.s (.s (.s (.s (.s (.s (.s (.s (.z)))))))))).anymq (v0 := ([] : aV)) rfl (.s (.s (.s (.s (.s (.s (.s (.s (.s (.z)))))))))))) aw rfl (aa (aq cR)) (by kernel_rfl) rfl ?_
 refine eB (i := 19) rfl (by kernel_rfl) rfl ?_
 refine o_entSt (encK := fx) (encV := cy) (v := (a6 n)) rfl rfl rfl (.s (.s (.s (.s (.s (.s (.s (.s (.s (.z)))))))))) ?_
 refine ae ?_
 refine dg (fun w h => ((h.anymp (.s (.s (.s (.s (.s (.s (.s (.s (.z)))))))))).anymp (.s (.s (.s (.s (.s (.s (.s (.s (.s (.z)))))))))))) ?_
 refine gP (by kernel_rfl) ?_
 refine aj ?_
 refine ao ?_
 refine ab ?_
 refine ap (aK 0 aN rfl rfl rfl rfl) rfl rfl ?_
 refine aT aN rfl rfl rfl (.s (.s (.s (.s (.s (.z)))))) rfl rfl rfl rfl ?_
 refine aT eA rfl rfl rfl (.s (.s (.s (.s (.z))))) rfl rfl rfl rfl ?_
 refine ae ?_
 refine aj ?_
 refine aF ?_
 refine aL ?_
 refine e_rret ((some e)) ?_ (bS 1)
 exact ⟨rfl, by rw [List.find?_append, hpf, List.find?_cons_of_pos (p := (fun i => cX v.res am (atR v.rg i).1)) h14_2]; rfl, rfl⟩
 refine ae ?_
 refine aj ?_
 refine au rfl ?_
 refine aH ?_
 refine bq ?_
 refine ib (none) ?_ (bS 1)
 exact ⟨rfl, by rw [List.find?_append, hpf, List.find?_cons_of_neg (by rw [h14_2]; decide)]; rfl⟩
 obtain ⟨rfl, hpf⟩ := hI
 refine bq ?_
 refine aj ?_
 refine ao ?_
 refine ab ?_
 refine ap (bN rfl (e6)) rfl rfl ?_
 refine aT aN rfl rfl rfl (.s (.s (.s (.z)))) rfl rfl rfl rfl ?_
 refine aT eA rfl rfl rfl (.s (.s (.z))) rfl rfl rfl rfl ?_
 refine ae ?_
 refine aj ?_
 refine aF ?_
 refine gg ?_
 refine fD .z ?_
 refine eN (rs := [.cell 4 29, .cell 5 40]) rfl (bA 3 aN rfl rfl rfl rfl (fd 2 eA rfl rfl rfl bR)) (fun w hw => ?_)
 obtain ⟨h1, h2, h3⟩ := (hw.weak (.cons _ (.cons _ (.cons _ (.cons _ (.cons _ (.cons _ (.cons_cons _ (.cons_cons _ .slnil)))))))) (fun s hs => hs)).f1.f1.two.uc
 focus first
   | (have hE := cM (v := v) (hm := hm) (am := am) h3_1
      rw [hE]
      exact ⟨(), rfl, h1, h2, h3⟩)
   | (have hE := cF (v := v) (am := am) h3_1 h6_8
      rw [hE]
      exact ⟨(), rfl, h1, h2, h3⟩)
   | (have hE := cS (am := am) h3_1 h6_8 h9_2
      rw [hE]
      exact ⟨(), rfl, h1, h2, h3⟩)
   | (have hE := cp (am := am) h3_1 h6_8 h9_2 (show bO v am n = none from hpf)
      rw [hE]
      exact ⟨(), rfl, h1, h2, h3⟩)
   | (have hq : bO v am n = g := by
        rw [bO, hxs, List.find?_append, ← hq9]
        cases g with
        | none => cases hqs
        | some y => rfl
      have hE := cp (am := am) h3_1 h6_8 h9_2 hq
      rw [hqs, if_pos rfl] at hE
      rw [hE]
      exact ⟨(), rfl, h1, h2, h3⟩)
   | (trace_state; fail)
 obtain ⟨rfl, hq9, hqs⟩ := hI
 refine aF ?_
 refine aL ?_
 refine aA ?_
 refine gg ?_
 refine fD .z ?_
 refine eN (rs := [.cell 4 29, .cell 5 40]) rfl (bA 3 aN rfl rfl rfl rfl (fd 2 eA rfl rfl rfl bR)) (fun w hw => ?_)
 obtain ⟨h1, h2, h3⟩ := (hw.weak (.cons _ (.cons _ (.cons _ (.cons _ (.cons _ (.cons _ (.cons_cons _ (.cons_cons _ .slnil)))))))) (fun s hs => hs)).f1.f1.two.uc
 focus first
   | (have hE := cM (v := v) (hm := hm) (am := am) h3_1
      rw [hE]
      exact ⟨(), rfl, h1, h2, h3⟩)
   | (have hE := cF (v := v) (am := am) h3_1 h6_8
      rw [hE]
      exact ⟨(), rfl, h1, h2, h3⟩)
   | (have hE := cS (am := am) h3_1 h6_8 h9_2
      rw [hE]
      exact ⟨(), rfl, h1, h2, h3⟩)
   | (have hE := cp (am := am) h3_1 h6_8 h9_2 (show bO v am n = none from hpf)
      rw [hE]
      exact ⟨(), rfl, h1, h2, h3⟩)
   | (have hq : bO v am n = g := by
        rw [bO, hxs, List.find?_append, ← hq9]
        cases g with
        | none => cases hqs
        | some y => rfl
      have hE := cp (am := am) h3_1 h6_8 h9_2 hq
      rw [hqs, if_pos rfl] at hE
      rw [hE]
      exact ⟨(), rfl, h1, h2, h3⟩)
   | (trace_state; fail)
 refine wrv_cons (i := 9) rfl rfl ?_ ?_
 refine bz bh rfl rfl (fun b12 => ?_)
 refine ae ?_
 refine dg (bS 1) ?_
 refine eB (i := 5) rfl (by kernel_rfl) rfl ?_
 refine ap (ez Tryz.underlying143 (cV Tryz.underlying26) bh rfl rfl (fun w hw => hw.own _ (List.mem_of_getElem? (i := 6) rfl))) rfl rfl ?_
 refine ae ?_
 refine dg (bS 1) ?_
 refine wv_as (t := 29) (.tuple #[.agg (d4 ((cA hm (a6 n)).getD ct)).toArray, .bool (cA hm (a6 n)).isSome]) rfl fV ?_
 refine bx (i := 6) rfl ah (ak rfl) (bS 1) aw rfl (aa (aa ar)) (by kernel_rfl) rfl ?_
 refine bx (i := 7) rfl ah (aI rfl rfl) (bS 1) aw rfl (aa (aa ar)) (by kernel_rfl) rfl ?_
 refine bx (i := 8) rfl ah (aI rfl rfl) (bS 1) aw rfl (aa (aa ar)) (by kernel_rfl) rfl ?_
 refine wv_splitb (t := 31) rfl (fun h6_8 => ?_) (fun h6_8 => ?_)
 refine eB (i := 10) rfl (by kernel_rfl) rfl ?_
 refine aT bh rfl rfl rfl .z rfl rfl rfl rfl ?_
 refine ae ?_
 refine dg (bS 1) ?_
 refine bx (i := 11) rfl ah (ai rfl) (bS 1) aw rfl (aa (aa ar)) (by kernel_rfl) rfl ?_
 refine gP (by kernel_rfl) ?_
 refine aj ?_
 refine ao ?_
 refine ab ?_
 refine ap (ak rfl) rfl rfl ?_
 refine ae ?_
 refine aj ?_
 refine ay rfl ?_
 refine ao ?_
 refine ab ?_
 refine ap (aB dU rfl) rfl rfl ?_
 refine ap (aK 0 aN rfl rfl rfl rfl) rfl rfl ?_
 refine aT aN rfl rfl rfl (.s (.s (.s (.z)))) rfl rfl rfl rfl ?_
 refine aT eA rfl rfl rfl (.s (.s (.z))) rfl rfl rfl rfl ?_
 refine ae ?_
 refine aj ?_
 refine aF ?_
 refine aA ?_
 refine gg ?_
 refine eN (rs := [.cell 4 29, .cell 5 40]) rfl (bA 3 aN rfl rfl rfl rfl (fd 2 eA rfl rfl rfl bR)) (fun w hw => ?_)
 obtain ⟨h1, h2, h3⟩ := (hw.weak (.cons _ (.cons _ (.cons _ (.cons _ (.cons _ (.cons _ (.cons_cons _ (.cons_cons _ .slnil)))))))) (fun s hs => hs)).f1.f1.two.uc
 focus first
   | (have hE := cM (v := v) (hm := hm) (am := am) h3_1
      rw [hE]
      exact ⟨(), rfl, h1, h2, h3⟩)
   | (have hE := cF (v := v) (am := am) h3_1 h6_8
      rw [hE]
      exact ⟨(), rfl, h1, h2, h3⟩)
   | (have hE := cS (am := am) h3_1 h6_8 h9_2
      rw [hE]
      exact ⟨(), rfl, h1, h2, h3⟩)
   | (have hE := cp (am := am) h3_1 h6_8 h9_2 (show bO v am n = none from hpf)
      rw [hE]
      exact ⟨(), rfl, h1, h2, h3⟩)
   | (have hq : bO v am n = g := by
        rw [bO, hxs, List.find?_append, ← hq9]
        cases g with
        | none => cases hqs
        | some y => rfl
      have hE := cp (am := am) h3_1 h6_8 h9_2 hq
      rw [hqs, if_pos rfl] at hE
      rw [hE]
      exact ⟨(), rfl, h1, h2, h3⟩)
   | (trace_state; fail)
 refine eB (i := 10) rfl (by kernel_rfl) rfl ?_
 refine aT bh rfl rfl rfl .z rfl rfl rfl rfl ?_
 refine ae ?_
 refine dg (bS 1) ?_
 refine bx (i := 11) rfl ah (ai rfl) (bS 1) aw rfl (aa (aa ar)) (by kernel_rfl) rfl ?_
 refine gP (by kernel_rfl) ?_
 refine aj ?_
 refine ao ?_
 refine ab ?_
 refine ap (ak rfl) rfl rfl ?_
 refine ae ?_
 refine aj ?_
 refine au rfl ?_
 refine aH ?_
 refine aj ?_
 refine ao ?_
 refine ao ?_
 refine ab ?_
 refine ap (aM 5 fF rfl rfl rfl) rfl rfl ?_
 refine bv rfl ent_35 rfl (c_vFree v hm hv hml) (fun w hw => (aQ (cI 0 rfl hw) (aQ (dL 6 rfl hw) bf))) ?_
 refine ap (dB rfl rfl) rfl rfl ?_
 refine aC (t := 37) rfl (fun h9_2 => ?_) (fun h9_2 => ?_)
 refine ae ?_
 refine aj ?_
 refine ay rfl ?_
 refine ao ?_
 refine ab ?_
 refine ap (bN rfl (e6)) rfl rfl ?_
 refine aT aN rfl rfl rfl (.s (.s (.s (.z)))) rfl rfl rfl rfl ?_
 refine aT eA rfl rfl rfl (.s (.s (.z))) rfl rfl rfl rfl ?_
 refine ae ?_
 refine aj ?_
 refine aF ?_
 refine aA ?_
 refine gg ?_
 refine eN (rs := [.cell 4 29, .cell 5 40]) rfl (bA 3 aN rfl rfl rfl rfl (fd 2 eA rfl rfl rfl bR)) (fun w hw => ?_)
 obtain ⟨h1, h2, h3⟩ := (hw.weak (.cons _ (.cons _ (.cons _ (.cons _ (.cons _ (.cons _ (.cons_cons _ (.cons_cons _ .slnil)))))))) (fun s hs => hs)).f1.f1.two.uc
 focus first
   | (have hE := cM (v := v) (hm := hm) (am := am) h3_1
      rw [hE]
      exact ⟨(), rfl, h1, h2, h3⟩)
   | (have hE := cF (v := v) (am := am) h3_1 h6_8
      rw [hE]
      exact ⟨(), rfl, h1, h2, h3⟩)
   | (have hE := cS (am := am) h3_1 h6_8 h9_2
      rw [hE]
      exact ⟨(), rfl, h1, h2, h3⟩)
   | (have hE := cp (am := am) h3_1 h6_8 h9_2 (show bO v am n = none from hpf)
      rw [hE]
      exact ⟨(), rfl, h1, h2, h3⟩)
   | (have hq : bO v am n = g := by
        rw [bO, hxs, List.find?_append, ← hq9]
        cases g with
        | none => cases hqs
        | some y => rfl
      have hE := cp (am := am) h3_1 h6_8 h9_2 hq
      rw [hqs, if_pos rfl] at hE
      rw [hE]
      exact ⟨(), rfl, h1, h2, h3⟩)
   | (trace_state; fail)
 refine ae ?_
 refine aj ?_
 refine au rfl ?_
 refine aH ?_
 refine aj ?_
 refine ao ?_
 refine ao ?_
 have hsl := eD v.rg
 refine w_drawV 8 mixed ?_
 refine bx (i := 0) rfl ah (aM 4 bL rfl rfl rfl) aw aw rfl (aa (aa ar)) (by kernel_rfl) rfl ?_
 refine bx (i := 1) rfl ah (aM 5 fF rfl rfl rfl) aw aw rfl (aa (aa ar)) (by kernel_rfl) rfl ?_
 refine bx (i := 2) rfl ah (aR rfl) aw aw rfl (aa (aa ar)) (by kernel_rfl) rfl ?_
 refine bx (i := 3) rfl ah (aB f9 rfl) aw aw rfl (aa (aa ar)) (by kernel_rfl) rfl ?_
 refine bx (i := 4) rfl ah (aB d7 rfl) aw aw rfl (aa (aa ar)) (by kernel_rfl) rfl ?_
 refine bx (i := 5) rfl ah (dD 0 cm rfl rfl rfl rfl) aw aw rfl (aa (aa ar)) (by kernel_rfl) rfl ?_
 refine eB (i := 6) rfl (by kernel_rfl) rfl ?_
 refine aS rfl ent_97 (c_rSize v.rg hv.rg.lo.1) rfl ?_
 refine ae ?_
 refine dg aw ?_
 refine eB (i := 7) rfl (by kernel_rfl) rfl ?_
 refine i8 rfl ent_96 rfl (iT n (bj v.rg)) (fun w hw => bf) (fun ⟨p12, q12⟩ => ?_)
 refine ae ?_
 refine dg (bS 2) ?_
 refine wv_heap (fun w h => h.freeze.freeze) ?_
 refine gP (by kernel_rfl) ?_
 refine aj ?_
 refine aP ?_
 refine cH (fun w h => h.weak (.cons _ (.cons_cons _ (.cons_cons _ (.cons_cons _ (.cons_cons _ (.cons_cons _ (.cons_cons _ (.cons_cons _ .slnil)))))))) (fun s hs => hs)) ?_
 refine w_range (σ := Option Int) (fun pre g => g = none ∧ pre.find? (fun i => cX v.res am (atR v.rg i).1) = none) (fun c pre g => c = .ret ∧ g = pre.find? (fun i => cX v.res am (atR v.rg i).1) ∧ g.isSome = true) (fun g => [Ch.row b5 [.string (ba (a6 n))] 26, Ch.row b4 [.int .i64 0] 40, Ch.row b3 (dN (adO v g)) 29, Ch.row b2 [.string (ba n)] 26, Ch.row b1 [.pointer (some ⟨v.b, 0, none⟩)] 68, Ch.mp v.rh cy cQ (hmO v hm n g), Ch.mp v.ra fx cy (amO v am n g)]) (none) rfl rfl ent_164 (hX n (bj v.rg) p12 q12 hn (by omega) (by omega)) (List.forall_mem_cons.2 ⟨.head _, List.forall_mem_cons.2 ⟨.tail _ (.head _), nofun⟩⟩) rfl (fun _ => rfl) (⟨rfl, rfl⟩) rfl (fun pre e post g hxs hI lr D r hr okb wb => ?_) (fun g D0 hI => ?_) (fun c pre post g D0 hxs hI => ?_)
 obtain ⟨rfl, hpf⟩ := hI
 have her := gX (n := n) (slots := bj v.rg) (e := e) (by rw [hxs]; simp)
 refine ab ?_
 refine ap (ai rfl) rfl rfl ?_
 refine ae ?_
 refine gW rfl hr .z ?_
 refine aP ?_
 refine ao ?_
 refine ab ?_
 refine ap (aM 6 fF rfl rfl rfl) rfl rfl ?_
 refine ap (aR rfl) rfl rfl ?_
 refine ap (aB f9 rfl) rfl rfl ?_
 refine ap (aB d7 rfl) rfl rfl ?_
 refine ap (dD 2 cm rfl rfl rfl rfl) rfl rfl ?_
 refine ap (ak rfl) rfl rfl ?_
 refine bv rfl ent_98 rfl (c_rAt v.rg e hv.rg (by omega)) (fun w hw => bf) ?_
 refine ap (ak rfl) rfl rfl ?_
 refine ap (aI rfl rfl) rfl rfl ?_
 refine ap (aI rfl rfl) rfl rfl ?_
 refine bz aN rfl rfl (fun b14 => ?_)
 refine aT aN rfl rfl rfl .z rfl rfl rfl rfl ?_
 refine ap (ai rfl) rfl rfl ?_
 refine ae ?_
 refine aj ?_
 refine ao ?_
 refine ab ?_
 refine ap (aM 7 fF rfl rfl rfl) rfl rfl ?_
 refine ap (aK 0 aN rfl rfl rfl rfl) rfl rfl ?_
 refine bv rfl ent_99 rfl (c_vfree v am (atR v.rg e).1 hv (atR_lo _ _)) (fun w hw => (aQ (cI 2 rfl hw) (aQ (cI 3 rfl hw) (aQ (dL 9 rfl hw) bf)))) ?_
 refine bk (t := 60) rfl (fun h14_2 => ?_) (fun h14_2 => ?_)
 refine ae ?_
 refine aj ?_
 refine ay rfl ?_
 refine ao ?_
 refine w_drawVA 20 mixed (fun w h => ((h.anymp (.s (.s (.s (.s (.s (.s (.s (.s (.z)))))))))).anymp (.s (.s (.s (.s (.s (.s (.s (.s (.s (.z)))))))))))) ?_
 refine bx (i := 0) rfl ah (aM 7 fF rfl rfl rfl) (fun w h => ((h.anymp (.s (.s (.s (.s (.s (.s (.s (.s (.z)))))))))).anymp (.s (.s (.s (.s (.s (.s (.s (.s (.s (.z)))))))))))) aw rfl (aa (aq cR)) (by kernel_rfl) rfl ?_
 refine bx (i := 1) rfl ah (aR rfl) (fun w h => ((h.anymp (.s (.s (.s (.s (.s (.s (.s (.s (.z)))))))))).anymp (.s (.s (.s (.s (.s (.s (.s (.s (.s (.z)))))))))))) aw rfl (aa (aq cR)) (by kernel_rfl) rfl ?_
 refine bx (i := 2) rfl ah (aB dA rfl) (fun w h => ((h.anymp (.s (.s (.s (.s (.s (.s (.s (.s (.z)))))))))).anymp (.s (.s (.s (.s (.s (.s (.s (.s (.s (.z)))))))))))) aw rfl (aa (aq cR)) (by kernel_rfl) rfl ?_
 refine bx (i := 3) rfl ah (bp 2 eE rfl rfl rfl) (fun w h => ((h.anymp (.s (.s (.s (.s (.s (.s (.s (.s (.z)))))))))).anymp (.s (.s (.s (.s (.s (.s (.s (.s (.s (.z)))))))))))) aw rfl (aa (aq cR)) (by kernel_rfl) rfl ?_
 refine bx (i := 4) rfl ah (aM 3 bL rfl rfl rfl) (fun w h => ((h.anymp (.s (.s (.s (.s (.s (.s (.s (.s (.z)))))))))).anymp (.s (.s (.s (.s (.s (.s (.s (.s (.s (.z)))))))))))) aw rfl (aa (aq cR)) (by kernel_rfl) rfl ?_
 refine bx (i := 5) rfl ah (aM 7 fF rfl rfl rfl) (fun w h => ((h.anymp (.s (.s (.s (.s (.s (.s (.s (.s (.z)))))))))).anymp (.s (.s (.s (.s (.s (.s (.s (.s (.s (.z)))))))))))) aw rfl (aa (aq cR)) (by kernel_rfl) rfl ?_
 refine bx (i := 6) rfl ah (aR rfl) (fun w h => ((h.anymp (.s (.s (.s (.s (.s (.s (.s (.s (.z)))))))))).anymp (.s (.s (.s (.s (.s (.s (.s (.s (.s (.z)))))))))))) aw rfl (aa (aq cR)) (by kernel_rfl) rfl ?_
 refine bx (i := 7) rfl ah (aB gb rfl) (fun w h => ((h.anymp (.s (.s (.s (.s (.s (.s (.s (.s (.z)))))))))).anymp (.s (.s (.s (.s (.s (.s (.s (.s (.s (.z)))))))))))) aw rfl (aa (aq cR)) (by kernel_rfl) rfl ?_
 refine bx (i := 8) rfl ah (bp 2 ty_144 rfl rfl rfl) (fun w h => ((h.anymp (.s (.s (.s (.s (.s (.s (.s (.s (.z)))))))))).anymp (.s (.s (.s (.s (.s (.s (.s (.s (.s (.z)))))))))))) aw rfl (aa (aq cR)) (by kernel_rfl) rfl ?_
 refine bx (i := 9) rfl ah (aK 0 aN rfl rfl rfl rfl) (fun w h => ((h.anymp (.s (.s (.s (.s (.s (.s (.s (.s (.z)))))))))).anymp (.s (.s (.s (.s (.s (.s (.s (.s (.s (.z)))))))))))) aw rfl (aa (aq cR)) (by kernel_rfl) rfl ?_
 refine bx (i := 10) rfl ah (aM 6 bL rfl rfl rfl) (fun w h => ((h.anymp (.s (.s (.s (.s (.s (.s (.s (.s (.z)))))))))).anymp (.s (.s (.s (.s (.s (.s (.s (.s (.s (.z)))))))))))) aw rfl (aa (aq cR)) (by kernel_rfl) rfl ?_
 refine bx (i := 11) rfl ah (aK 0 aN rfl rfl rfl rfl) (fun w h => ((h.anymp (.s (.s (.s (.s (.s (.s (.s (.s (.z)))))))))).anymp (.s (.s (.s (.s (.s (.s (.s (.s (.s (.z)))))))))))) aw rfl (aa (aq cR)) (by kernel_rfl) rfl ?_
 refine bx (i := 12) rfl ah (bN rfl (gS _ _ _ _)) (fun w h => ((h.anymp (.s (.s (.s (.s (.s (.s (.s (.s (.z)))))))))).anymp (.s (.s (.s (.s (.s (.s (.s (.s (.s (.z)))))))))))) aw rfl (aa (aq cR)) (by kernel_rfl) rfl ?_
 refine bx (i := 13) rfl ah (aM 3 bL rfl rfl rfl) (fun w h => ((h.anymp (.s (.s (.s (.s (.s (.s (.s (.s (.z)))))))))).anymp (.s (.s (.s (.s (.s (.s (.s (.s (.s (.z)))))))))))) aw rfl (aa (aq cR)) (by kernel_rfl) rfl ?_
 refine eB (i := 14) rfl (by kernel_rfl) rfl ?_
 refine iJ (encK := cy) (encV := cQ) Tryz.underlying143 (cV Tryz.underlying26) bh rfl rfl (gv h6_8) (fun st => (.s (.s (.s (.s (.s (.s (.s (.s (.z)))))))))) rfl (fun st14 => ?_)
 refine ae ?_
 refine dg (fun w h => ((h.anymq (v0 := ct) rfl (.s (.s (.s (.s (.s (.s (.s (.s (.z)))))))))).anymp (.s (.s (.s (.s (.s (.s (.s (.s (.s (.z)))))))))))) ?_
 refine bx (i := 15) rfl ah (aI rfl rfl) (fun w h => ((h.anymq (v0 := ct) rfl (.s (.s (.s (.s (.s (.s (.s (.s (.z)))))))))).anymp (.s (.s (.s (.s (.s (.s (.s (.s (.s (.z)))))))))))) aw rfl (aa (aq cR)) (by kernel_rfl) rfl ?_
 refine eB (i := 16) rfl (by kernel_rfl) rfl ?_
 refine o_entSt (encK := cy) (encV := cQ) (v := (⟨n, (atR v.rg e).1⟩ : Hd)) rfl rfl rfl (.s (.s (.s (.s (.s (.s (.s (.s (.z))))))))) ?_
 refine ae ?_
 refine dg (fun w h => ((h.anymp (.s (.s (.s (.s (.s (.s (.s (.s (.z)))))))))).anymp (.s (.s (.s (.s (.s (.s (.s (.s (.s (.z)))))))))))) ?_
 refine eB (i := 17) rfl (by kernel_rfl) rfl ?_
 refine iJ (encK := fx) (encV := cy) Tryz.underlying144 i4 bL rfl rfl (ir h14_2) (fun st => (.s (.s (.s (.s (.s (.s (.s (.s (.s (.z))))))))))) rfl (fun st15 => ?_)
 refine ae ?_
 refine dg (fun w h => ((h.anymp (.s (.s (.s (.s (.s (.s (.s (.s (.z)))))))))).anymq (v0 := ([] : aV)) rfl (.s (.s (.s (.s (.s (.s (.s (.s (.s (.z)))))))))))) ?_
 refine bx (i := 18) rfl ah (aI rfl rfl) (fun w h => ((h.anymp (.s (.s (.s (.s (.s (.s (.s (.s (.z)))))))))).anymq (v0 := ([] : aV)) rfl (.s (.s (.s (.s (.s (.s (.s (.s (.s (.z)))))))))))) aw rfl (aa (aq cR)) (by kernel_rfl) rfl ?_
 refine eB (i := 19) rfl (by kernel_rfl) rfl ?_
 refine o_entSt (encK := fx) (encV := cy) (v := (a6 n)) rfl rfl rfl (.s (.s (.s (.s (.s (.s (.s (.s (.s (.z)))))))))) ?_
 refine ae ?_
 refine dg (fun w h => ((h.anymp (.s (.s (.s (.s (.s (.s (.s (.s (.z)))))))))).anymp (.s (.s (.s (.s (.s (.s (.s (.s (.s (.z)))))))))))) ?_
 refine gP (by kernel_rfl) ?_
 refine aj ?_
 refine ao ?_
 refine ab ?_
 refine ap (aK 0 aN rfl rfl rfl rfl) rfl rfl ?_
 refine aT aN rfl rfl rfl (.s (.s (.s (.s (.s (.z)))))) rfl rfl rfl rfl ?_
 refine aT eA rfl rfl rfl (.s (.s (.s (.s (.z))))) rfl rfl rfl rfl ?_
 refine ae ?_
 refine aj ?_
 refine aF ?_
 refine aL ?_
 refine e_rret ((some e)) ?_ (bS 1)
 exact ⟨rfl, by rw [List.find?_append, hpf, List.find?_cons_of_pos (p := (fun i => cX v.res am (atR v.rg i).1)) h14_2]; rfl, rfl⟩
 refine ae ?_
 refine aj ?_
 refine au rfl ?_
 refine aH ?_
 refine bq ?_
 refine ib (none) ?_ (bS 1)
 exact ⟨rfl, by rw [List.find?_append, hpf, List.find?_cons_of_neg (by rw [h14_2]; decide)]; rfl⟩
 obtain ⟨rfl, hpf⟩ := hI
 refine bq ?_
 refine aj ?_
 refine ao ?_
 refine ab ?_
 refine ap (bN rfl (e6)) rfl rfl ?_
 refine aT aN rfl rfl rfl (.s (.s (.s (.z)))) rfl rfl rfl rfl ?_
 refine aT eA rfl rfl rfl (.s (.s (.z))) rfl rfl rfl rfl ?_
 refine ae ?_
 refine aj ?_
 refine aF ?_
 refine gg ?_
 refine fD .z ?_
 refine eN (rs := [.cell 4 29, .cell 5 40]) rfl (bA 3 aN rfl rfl rfl rfl (fd 2 eA rfl rfl rfl bR)) (fun w hw => ?_)
 obtain ⟨h1, h2, h3⟩ := (hw.weak (.cons _ (.cons _ (.cons _ (.cons _ (.cons _ (.cons _ (.cons_cons _ (.cons_cons _ .slnil)))))))) (fun s hs => hs)).f1.f1.two.uc
 focus first
   | (have hE := cM (v := v) (hm := hm) (am := am) h3_1
      rw [hE]
      exact ⟨(), rfl, h1, h2, h3⟩)
   | (have hE := cF (v := v) (am := am) h3_1 h6_8
      rw [hE]
      exact ⟨(), rfl, h1, h2, h3⟩)
   | (have hE := cS (am := am) h3_1 h6_8 h9_2
      rw [hE]
      exact ⟨(), rfl, h1, h2, h3⟩)
   | (have hE := cp (am := am) h3_1 h6_8 h9_2 (show bO v am n = none from hpf)
      rw [hE]
      exact ⟨(), rfl, h1, h2, h3⟩)
   | (have hq : bO v am n = g := by
        rw [bO, hxs, List.find?_append, ← hq9]
        cases g with
        | none => cases hqs
        | some y => rfl
      have hE := cp (am := am) h3_1 h6_8 h9_2 hq
      rw [hqs, if_pos rfl] at hE
      rw [hE]
      exact ⟨(), rfl, h1, h2, h3⟩)
   | (trace_state; fail)
 obtain ⟨rfl, hq9, hqs⟩ := hI
 refine aF ?_
 refine aL ?_
 refine aA ?_
 refine gg ?_
 refine fD .z ?_
 refine eN (rs := [.cell 4 29, .cell 5 40]) rfl (bA 3 aN rfl rfl rfl rfl (fd 2 eA rfl rfl rfl bR)) (fun w hw => ?_)
 obtain ⟨h1, h2, h3⟩ := (hw.weak (.cons _ (.cons _ (.cons _ (.cons _ (.cons _ (.cons _ (.cons_cons _ (.cons_cons _ .slnil)))))))) (fun s hs => hs)).f1.f1.two.uc
 focus first
   | (have hE := cM (v := v) (hm := hm) (am := am) h3_1
      rw [hE]
      exact ⟨(), rfl, h1, h2, h3⟩)
   | (have hE := cF (v := v) (am := am) h3_1 h6_8
      rw [hE]
      exact ⟨(), rfl, h1, h2, h3⟩)
   | (have hE := cS (am := am) h3_1 h6_8 h9_2
      rw [hE]
      exact ⟨(), rfl, h1, h2, h3⟩)
   | (have hE := cp (am := am) h3_1 h6_8 h9_2 (show bO v am n = none from hpf)
      rw [hE]
      exact ⟨(), rfl, h1, h2, h3⟩)
   | (have hq : bO v am n = g := by
        rw [bO, hxs, List.find?_append, ← hq9]
        cases g with
        | none => cases hqs
        | some y => rfl
      have hE := cp (am := am) h3_1 h6_8 h9_2 hq
      rw [hqs, if_pos rfl] at hE
      rw [hE]
      exact ⟨(), rfl, h1, h2, h3⟩)
   | (trace_state; fail)
 exact wrv_nil
 refine ap (bJ rfl) rfl rfl ?_
 refine ap (ai rfl) rfl rfl ?_
 refine ae ?_
 refine aj ?_
 refine ay rfl ?_
 refine ao ?_
 refine ab ?_
 refine ap (bN rfl (e6)) rfl rfl ?_
 refine aT aN rfl rfl rfl (.s (.z)) rfl rfl rfl rfl ?_
 refine aT eA rfl rfl rfl .z rfl rfl rfl rfl ?_
 refine ae ?_
 refine aj ?_
 refine aF ?_
 refine aL ?_
 refine aA ?_
 refine gg ?_
 refine eN (rs := [.cell 4 29, .cell 5 40]) rfl (bA 1 aN rfl rfl rfl rfl (fd 0 eA rfl rfl rfl bR)) (fun w hw => ?_)
 obtain ⟨h1, h2, h3⟩ := (hw.weak (.cons _ (.cons _ (.cons _ (.cons _ (.cons_cons _ (.cons_cons _ .slnil)))))) (fun s hs => hs)).f1.f1.two.uc
 focus first
   | (have hE := cM (v := v) (hm := hm) (am := am) h3_1
      rw [hE]
      exact ⟨(), rfl, h1, h2, h3⟩)
   | (have hE := cF (v := v) (am := am) h3_1 h6_8
      rw [hE]
      exact ⟨(), rfl, h1, h2, h3⟩)
   | (have hE := cS (am := am) h3_1 h6_8 h9_2
      rw [hE]
      exact ⟨(), rfl, h1, h2, h3⟩)
   | (have hE := cp (am := am) h3_1 h6_8 h9_2 (show bO v am n = none from hpf)
      rw [hE]
      exact ⟨(), rfl, h1, h2, h3⟩)
   | (have hq : bO v am n = g := by
        rw [bO, hxs, List.find?_append, ← hq9]
        cases g with
        | none => cases hqs
        | some y => rfl
      have hE := cp (am := am) h3_1 h6_8 h9_2 hq
      rw [hqs, if_pos rfl] at hE
      rw [hE]
      exact ⟨(), rfl, h1, h2, h3⟩)
   | (trace_state; fail)
end Go.Proofs.YtnpdgmoeoidppaaGreat
