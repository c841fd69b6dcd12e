import Derived.Test.YtnpdgmoeoidppaaGreatLzQh
/- vips: a pool -/
namespace Go.Proofs.YtnpdgmoeoidppaaGreat
open Go.RowKit Go.Shelf
set_option linter.unusedVariables false
set_option linter.unusedSimpArgs false

theorem bu_46_0_1 (x0 : aX) (x1 : Bool) (x2 : Int) (x3 : Int) : Tryz.prog.built 46 [(0, .string (ba x0)), (1, .agg [.bool x1, .int .u64 x2, .int .u64 x3].toArray)] = some [.string (ba x0), .bool x1, .int .u64 x2, .int .u64 x3].toArray := by kernel_rfl
theorem ent_104 : Enters Tryz.prog 104 := enters_of Tryz.func104 (by kernel_rfl) rfl
theorem ent_164 : Enters Tryz.prog 164 := enters_of Tryz.func164 (by kernel_rfl) rfl
theorem ent_35 : Enters Tryz.prog 35 := enters_of Tryz.func35 (by kernel_rfl) rfl
theorem ent_95 : Enters Tryz.prog 95 := enters_of Tryz.func95 (by kernel_rfl) rfl
theorem ent_96 : Enters Tryz.prog 96 := enters_of Tryz.func96 (by kernel_rfl) rfl
theorem ent_98 : Enters Tryz.prog 98 := enters_of Tryz.func98 (by kernel_rfl) rfl
theorem ent_99 : Enters Tryz.prog 99 := enters_of Tryz.func99 (by kernel_rfl) rfl
theorem fy : FA Tryz.prog 146 0 0 := fun b o w => by kernel_rfl
theorem dA : FA Tryz.prog 146 1 5 := fun b o w => by kernel_rfl
theorem gO : FA Tryz.prog 146 2 6 := fun b o w => by kernel_rfl
theorem fa_146_3 : FA Tryz.prog 146 3 7 := fun b o w => by kernel_rfl
theorem dy : FA Tryz.prog 46 1 1 := fun b o w => by kernel_rfl
theorem dZ : FA Tryz.prog 67 0 0 := fun b o w => by kernel_rfl
theorem dV : FA Tryz.prog 67 1 4 := fun b o w => by kernel_rfl
theorem eB : TyI Tryz.prog 143 false 1 8 (.map none) := TyI.mk' (by kernel_rfl) (fun _ => by kernel_rfl)
theorem ty_144 : TyI Tryz.prog 144 false 1 8 (.map none) := TyI.mk' (by kernel_rfl) (fun _ => by kernel_rfl)
theorem ep : TyI Tryz.prog 68 false 1 8 (.pointer none) := TyI.mk' (by kernel_rfl) (fun _ => by kernel_rfl)

abbrev c5 : Hd → Value := fun h => .agg (hdC h).toArray
/-- A pool that was made: its range, what is reserved, its room, where it lies. -/
structure Vp where
  rg : Rg
  res : List Rg
  A : Option Addr
  c : Nat
  room : Int
  b : Nat
  rh : Nat
  ra : Nat
def plC (r : Rg) (A : Option Addr) (n c : Nat) : List Value := [.bool r.base.six, .int .u64 r.base.hi, .int .u64 r.base.lo, .int .i64 r.bits, .slice A n c]
def vpC (v : Vp) : List Value := [.bool v.rg.base.six, .int .u64 v.rg.base.hi, .int .u64 v.rg.base.lo, .int .i64 v.rg.bits, .slice v.A v.res.length v.c, .map (some v.rh), .map (some v.ra), .int .i64 v.room]
structure VOk (v : Vp) : Prop where
  rg : RgOk v.rg
  res : ∀ x ∈ v.res, RgOk x
  len : v.res.length ≤ 4398046510976
  room : 0 ≤ v.room ∧ v.room ≤ 65536
abbrev Hm := List (aX × Hd)
abbrev Am := List (Ad × aX)
def vmC (v : Vp) (hm : Hm) (am : Am) : Ch := Ch.two (Ch.mp v.rh cX c5 hm) (Ch.mp v.ra gE cX am)
def fh : List Rg → Int
  | [] => 0
  | r :: t => if bY r ≠ 0 then bY r else fh t
theorem cksR_drop {l : List Rg} {k : Nat} (hk : k < l.length) (h : fh l = fh (l.drop k)) : fh l = if bY (l.getD k rg0) ≠ 0 then bY (l.getD k rg0) else fh (l.drop (k + 1)) := by
  rw [h, dI l rg0 k hk, fh]
def bz (n : aX) : Bool := decide (n ≠ []) && decide (bg n = 0)
def du (res : List Rg) (am : Am) (a : Ad) : Bool := !(cK am a).isSome && c6 res a
def adO (v : Vp) (g : Option Int) : Ad := match g with | none => ad0 | some i => (atR v.rg i).1
def hmO (v : Vp) (hm : Hm) (n : aX) (g : Option Int) : Hm := match g with | none => hm | some i => hm ++ [(aY n, ⟨n, (atR v.rg i).1⟩)]
def amO (v : Vp) (am : Am) (n : aX) (g : Option Int) : Am := match g with | none => am | some i => am ++ [((atR v.rg i).1, aY n)]
def bB (v : Vp) (am : Am) (n : aX) : Option Int := (dh n (bk v.rg)).find? fun i => du v.res am (atR v.rg i).1
def bI (v : Vp) (hm : Hm) (am : Am) (n : aX) : (Ad × Int) × Hm × Am :=
  if bz n = false then ((ad0, 2), hm, am) else
  match cK hm (aY n) with
  | some h => ((h.ad, 0), hm, am)
  | none => if v.room - hm.length = 0 then ((ad0, 10), hm, am) else
    ((adO v (bB v am n), if (bB v am n).isSome = true then 0 else 10), hmO v hm n (bB v am n), amO v am n (bB v am n))
theorem c9 {v : Vp} {hm : Hm} {am : Am} {n : aX} (h : bz n = false) : bI v hm am n = ((ad0, 2), hm, am) := if_pos h
theorem cO {v : Vp} {hm : Hm} {am : Am} {n : aX} (h : bz n = true) (h2 : (cK hm (aY n)).isSome = true) : bI v hm am n = ((((cK hm (aY n)).getD d2).ad, 0), hm, am) := by
  rw [bI, if_neg (by rw [h]; decide)]
  cases h3 : cK hm (aY n) with
  | none => rw [h3] at h2; cases h2
  | some x => rfl
theorem cv {v : Vp} {hm : Hm} {am : Am} {n : aX} (h : bz n = true) (h2 : (cK hm (aY n)).isSome = false) (h4 : v.room - hm.length = 0) : bI v hm am n = ((ad0, 10), hm, am) := by
  rw [bI, if_neg (by rw [h]; decide)]
  cases h3 : cK hm (aY n) with
  | some x => rw [h3] at h2; cases h2
  | none => exact if_pos h4
theorem bV {v : Vp} {hm : Hm} {am : Am} {n : aX} (h : bz n = true) (h2 : (cK hm (aY n)).isSome = false) (h4 : ¬ v.room - hm.length = 0) {g : Option Int} (hg : bB v am n = g) : bI v hm am n = ((adO v g, if g.isSome = true then 0 else 10), hmO v hm n g, amO v am n g) := by
  subst hg
  rw [bI, if_neg (by rw [h]; decide)]
  cases h3 : cK hm (aY n) with
  | some x => rw [h3] at h2; cases h2
  | none => exact if_neg h4
def dropK (hm : Hm) (am : Am) (key : aX) : Hm × Am := (rmv hm key, rmv am ((cK hm key).getD d2).ad)
def cV (hm : Hm) (am : Am) (n : aX) : Int × Hm × Am := if bz n = false then (2, hm, am) else if (cK hm (aY n)).isSome = false then (5, hm, am) else (0, dropK hm am (aY n))
def ofV (hm : Hm) (n : aX) : Ad × Bool := if bz n = false then (ad0, false) else (((cK hm (aY n)).getD d2).ad, (cK hm (aY n)).isSome)
theorem eM {o : Option Hd} : Value.tuple [(o.map c5).getD (.agg [.string .empty, .bool false, .int .u64 0, .int .u64 0].toArray), .bool o.isSome].toArray = .tuple #[.agg (hdC (o.getD d2)).toArray, .bool o.isSome] := by cases o <;> rfl
theorem look1_hd {o : Option Hd} : (o.map c5).getD (.agg [.string .empty, .bool false, .int .u64 0, .int .u64 0].toArray) = .agg (hdC (o.getD d2)).toArray := by cases o <;> rfl
theorem look2_n {o : Option aX} : Value.tuple [(o.map cX).getD (.string .empty), .bool o.isSome].toArray = .tuple #[.string (ba (o.getD [])), .bool o.isSome] := by cases o <;> rfl
theorem e5 {α β : Type} [DecidableEq α] {m : List (α × β)} {a : α} (h : (cK m a).isSome = false) : cK m a = none := by
  cases hh : cK m a with
  | none => rfl
  | some x => rw [hh] at h; cases h
theorem gl {res : List Rg} {am : Am} {a : Ad} (h : du res am a = true) : cK am a = none := e5 (by
  simp only [du, Bool.and_eq_true, Bool.not_eq_true'] at h; exact h.1)

theorem c_vCheck (rg : Rg) (res : List Rg) (A : Option Addr) (c : Nat) (hr : RgOk rg) (hrs : ∀ x ∈ res, RgOk x) (hl : res.length ≤ 4398046510976) : RC Tryz.prog 43 #[.agg (plC rg A res.length c).toArray] [Ch.rd A 4 dJ res] (α := Unit) (fun _ => .int .i64 (fh (rg :: res))) (fun _ => []) := by
 refine bh (args := [.agg (plC rg A res.length c).toArray]) 23 Tryz.func43 rfl rfl rfl (fun w0 => ?_)
 have hall : ∀ x ∈ [rg] ++ res, RgOk x := fun x hx => (List.mem_append.1 hx).elim (fun h => by rw [List.mem_singleton.1 h]; exact hr) (hrs x)
 have hle : ([rg] ++ res).length = res.length + 1 := by simp
 refine ao ?_
 refine ab ?_
 refine bx rfl rfl rfl (fun b1 => ?_)
 refine ap (ai rfl) rfl rfl ?_
 refine ae ?_
 refine aj ?_
 refine ao ?_
 refine ao ?_
 refine ab ?_
 refine ap (aD dZ rfl) rfl rfl ?_
 refine ap (aI 0 bR rfl rfl rfl rfl) rfl rfl ?_
 refine gq (vs := [_]) ([rg] : List (Rg)) fC Tryz.underlying65 bR rfl rfl rfl rfl rfl rfl (fun As2 => ?_)
 refine ap (aD dV rfl) rfl rfl ?_
 refine ap (aM 1 fS rfl rfl rfl) rfl rfl ?_
 refine gc (enc := dJ) (sz := 4) res Tryz.underlying65 bR rfl rfl rfl (fun A c => .z) (src_S 0 Tryz.underlying65 rfl) (by simp only [List.length_cons, List.length_nil]; omega) (by simp only [List.length_cons, List.length_nil]; omega) rfl (fun A2 c2 => ?_)
 refine ap (ck Tryz.underlying65 rfl) rfl rfl ?_
 refine ap (ak rfl) rfl rfl ?_
 refine ae ?_
 refine aj ?_
 refine aT ?_
 refine bZ (σ := Nat) [2, 4, 5, 13, 14, 15, 16, 17, 18, 19, 20, 21, 22] (fun k => k ≤ ([rg] ++ res).length ∧ fh ([rg] ++ res) = fh (([rg] ++ res).drop k)) (fun k => ([rg] ++ res).length - k) (fun k => [(13, .int .i64 k)]) (0) ?_ ⟨rfl, trivial⟩ (fun k hI => ?_)
 exact ⟨Nat.zero_le _, rfl⟩
 refine ao ?_
 refine ab ?_
 refine ap (bQ rfl rfl) rfl rfl ?_
 refine aG (t := 14) rfl (fun h2_0 => ?_) (fun h2_0 => ?_)
 have hk : k < ([rg] ++ res).length := by omega
 have hck := cksR_drop hk hI.2
 have hxk := hall _ (cF (d := rg0) hk)
 refine ae ?_
 refine aj ?_
 refine ao ?_
 refine ay rfl ?_
 refine aL ?_
 refine aj ?_
 refine ao ?_
 refine aT ?_
 refine ao ?_
 refine ab ?_
 refine ap (cp  Tryz.underlying65 bR rfl rfl (ec 0 rfl) rfl (by omega)) rfl rfl ?_
 refine ap (gC fC rg0 bR rfl (ec 0 rfl) (by omega) rfl rfl rfl) rfl rfl ?_
 refine bj bR rfl rfl (fun b4 => ?_)
 refine aS bR rfl rfl rfl .z rfl rfl rfl rfl ?_
 refine ae ?_
 refine aj ?_
 refine ao ?_
 refine ab ?_
 refine ap (aI 0 bR rfl rfl rfl rfl) rfl rfl ?_
 refine aR rfl ent_110 (c_rCheck (([rg] ++ res).getD k rg0) hxk.lo.1) rfl ?_
 refine ap (ai rfl) rfl rfl ?_
 refine ae ?_
 refine aj ?_
 refine ao ?_
 refine ab ?_
 refine ap (ak rfl) rfl rfl ?_
 refine ap (cc rfl rfl) rfl rfl ?_
 refine aG (t := 20) rfl (fun h5_1 => ?_) (fun h5_1 => ?_)
 refine ae ?_
 refine aj ?_
 refine ay rfl ?_
 refine ao ?_
 refine ab ?_
 refine ap (ak rfl) rfl rfl ?_
 refine ap (ai rfl) rfl rfl ?_
 refine ae ?_
 refine aj ?_
 refine aH ?_
 refine aU ?_
 refine az ?_
 refine bv ?_
 refine aU ?_
 refine az ?_
 refine aN (ts := [2]) rfl rfl rfl (fun w hw => ?_)
 have hE : fh (rg :: res) = bY (([rg] ++ res).getD k rg0) := hck.trans (if_pos h5_1)
 exact ⟨(), by rw [hE]; rfl, hw.base, (hw.weak (List.nil_sublist _) (fun s hs => hs)).toNews⟩
 refine ae ?_
 refine aj ?_
 refine aw rfl ?_
 refine aL ?_
 refine bw ?_
 refine aj ?_
 refine ab ?_
 refine ap (bi rfl rfl (by omega) (by omega)) rfl rfl ?_
 refine ap (ak rfl) rfl rfl ?_
 refine ae ?_
 refine bA (k + 1) ?_ ?_ ⟨rfl, trivial⟩ (by repeat (first | exact trivial | refine ⟨rfl, ?_⟩)) (bP 1)
 exact ⟨by omega, by rw [hck, if_neg h5_1]⟩
 omega
 refine ae ?_
 refine aj ?_
 refine ao ?_
 refine aw rfl ?_
 refine bG ?_
 refine a7 ?_
 refine aZ ?_
 refine bc ?_
 refine aj ?_
 refine ao ?_
 refine ab ?_
 refine ap (ai rfl) rfl rfl ?_
 refine ae ?_
 refine aj ?_
 refine aH ?_
 refine aN (ts := [2]) rfl rfl rfl (fun w hw => ?_)
 have hE : fh (rg :: res) = 0 := by
   have h9 := hI.2
   rw [List.drop_of_length_le (by omega)] at h9; exact h9
 exact ⟨(), by rw [hE]; rfl, hw.base, (hw.weak (List.nil_sublist _) (fun s hs => hs)).toNews⟩

theorem c_Clone_rg (l : List Rg) (A : Option Addr) (c : Nat) (hl : l.length ≤ 4398046510976) : RC Tryz.prog 90 #[.slice A l.length c] [Ch.rd A 4 dJ l] (α := Option Addr × Nat) (fun p => .slice p.1 l.length p.2) (fun p => [Ch.ls p.1 p.2 64 4 dJ l]) := by
 refine bh (args := [.slice A l.length c]) 8 Tryz.func90 rfl rfl rfl (fun w0 => ?_)
 refine ao ?_
 refine ab ?_
 refine ap (ai rfl) rfl rfl ?_
 refine ae ?_
 refine aj ?_
 refine ao ?_
 refine ao ?_
 refine ab ?_
 refine ap (ak rfl) rfl rfl ?_
 refine ap (y_eqsn Tryz.underlying65 rfl rfl) rfl rfl ?_
 refine bl (t := 4) rfl (fun h1_1 => ?_) (fun h1_1 => ?_)
 refine ae ?_
 refine aj ?_
 refine ay rfl ?_
 refine ao ?_
 refine ab ?_
 refine ap (ai rfl) rfl rfl ?_
 refine ae ?_
 refine aj ?_
 refine aH ?_
 refine az ?_
 refine aN (ts := [2]) rfl rfl rfl (fun w hw => ?_)
 have hr : RsP A l.length 4 _ w := hw.sh _ List.mem_cons_self
 have h0 : l = [] := List.length_eq_zero_iff.1 (rs_none hr h1_1)
 subst h0
 exact ⟨(none, 0), rfl, hw.base, (hw.nilsl 64 4).toNews⟩
 refine ae ?_
 refine aj ?_
 refine aw rfl ?_
 refine aL ?_
 refine aj ?_
 refine ao ?_
 refine ab ?_
 refine gq (vs := []) ([] : List (Rg)) fC Tryz.underlying65 bR rfl rfl rfl rfl rfl rfl (fun As1 => ?_)
 refine ap (ak rfl) rfl rfl ?_
 refine gc (enc := dJ) (sz := 4) l Tryz.underlying65 bR rfl rfl rfl (fun A c => .z) (src_S 0 Tryz.underlying65 rfl) (by simp only [List.length_cons, List.length_nil, Nat.zero_add]; omega) (by simp only [List.length_cons, List.length_nil, Nat.zero_add]; omega) rfl (fun A1 c1 => ?_)
 refine ap (ai rfl) rfl rfl ?_
 refine ae ?_
 refine aj ?_
 refine aH ?_
 refine aN (ts := [2]) rfl rfl rfl (fun w hw => ?_)
 exact ⟨(A1, c1), rfl, hw.base, hw.toNews⟩

theorem c_vhost (n : aX) : cC Tryz.prog 95 #[.string (ba n)] (.bool (bz n)) := by
 intro w0
 refine a6 (ok0 := no) (S := []) (args := [.string (ba n)]) 10 Tryz.func95 rfl rfl rfl (by simp) (by simp) ?_
 refine ao ?_
 refine ab ?_
 refine ap (ai rfl) rfl rfl ?_
 refine ae ?_
 refine aj ?_
 refine ao ?_
 refine ab ?_
 refine ap (ak rfl) rfl rfl ?_
 refine ap (y_neqs rfl rfl) rfl rfl ?_
 refine aG (t := 4) rfl (fun h1_1 => ?_) (fun h1_1 => ?_)
 refine ap (ak rfl) rfl rfl ?_
 refine aA rfl rfl ?_
 refine ap (ak rfl) rfl rfl ?_
 refine aA rfl rfl ?_
 refine aR rfl ent_74 (gv _) rfl ?_
 refine aA rfl rfl ?_
 refine ap (dl rfl rfl) rfl rfl ?_
 refine ap (aP rfl rfl) rfl rfl ?_
 refine ap (ai rfl) rfl rfl ?_
 refine ae ?_
 refine aj ?_
 refine aH ?_
 refine aN (ts := [2]) rfl rfl rfl (fun w hw => ?_)
 refine ⟨?_, hw.base⟩
 show Ending.returned (.bool _) = _
 congr 2
 focus first
   | (rw [bz, decide_eq_true h1_1]; rfl)
   | (rw [bz, decide_eq_false h1_1]; rfl)
   | (trace_state; fail)
 refine ap (ak rfl) rfl rfl ?_
 refine aK rfl rfl rfl rfl ?_
 refine aK rfl rfl rfl rfl ?_
 refine aK rfl rfl rfl rfl ?_
 refine ap (aQ rfl rfl) rfl rfl ?_
 refine ap (ai rfl) rfl rfl ?_
 refine ae ?_
 refine aj ?_
 refine aH ?_
 refine aN (ts := [2]) rfl rfl rfl (fun w hw => ?_)
 refine ⟨?_, hw.base⟩
 show Ending.returned (.bool _) = _
 congr 2
 focus first
   | (rw [bz, decide_eq_true h1_1]; rfl)
   | (rw [bz, decide_eq_false h1_1]; rfl)
   | (trace_state; fail)

set_option maxRecDepth 100000 in
theorem c_vFree (v : Vp) (hm : Hm) (hv : VOk v) (hml : hm.length ≤ 1000000) : RC Tryz.prog 35 #[.pointer (some ⟨v.b, 0, none⟩)] [Ch.row v.b (vpC v) 146, Ch.mp v.rh cX c5 hm] (α := Unit) (fun _ => .int .i64 (v.room - hm.length)) (fun _ => []) := by
 refine bh (args := [.pointer (some ⟨v.b, 0, none⟩)]) 15 Tryz.func35 rfl rfl rfl (fun w0 => ?_)
 refine ao ?_
 refine ab ?_
 refine ap (ai rfl) rfl rfl ?_
 refine ae ?_
 refine aj ?_
 refine ao ?_
 refine ao ?_
 refine ab ?_
 refine ap (ak rfl) rfl rfl ?_
 refine ap (gp Tryz.underlying68 rfl rfl) rfl rfl ?_
 refine bW (t := 4) (.bool false) rfl (congrArg Value.bool rfl) ?_
 refine ae ?_
 refine aj ?_
 refine aw rfl ?_
 refine aL ?_
 refine aj ?_
 refine ao ?_
 refine dH 11 rfl mixed ?_
 have hvr := hv.room
 refine aB (i := 0) rfl ah (ak rfl) au au rfl (aa aq) (by kernel_rfl) rfl ?_
 refine aB (i := 1) rfl ah (bb rfl) au au rfl (aa aq) (by kernel_rfl) rfl ?_
 refine aB (i := 2) rfl ah (aD fa_146_3 rfl) au au rfl (aa aq) (by kernel_rfl) rfl ?_
 refine aB (i := 3) rfl ah (bL 0 ed rfl rfl rfl) au au rfl (aa aq) (by kernel_rfl) rfl ?_
 refine aB (i := 4) rfl ah (ak rfl) au au rfl (aa aq) (by kernel_rfl) rfl ?_
 refine aB (i := 5) rfl ah (bb rfl) au au rfl (aa aq) (by kernel_rfl) rfl ?_
 refine aB (i := 6) rfl ah (aD dA rfl) au au rfl (aa aq) (by kernel_rfl) rfl ?_
 refine aB (i := 7) rfl ah (bL 0 eB rfl rfl rfl) au au rfl (aa aq) (by kernel_rfl) rfl ?_
 refine aB (i := 8) rfl ah (y_lenmp (encK := cX) (encV := c5) Tryz.underlying143 rfl (fun w hw => hw.sh _ (List.mem_of_getElem? (i := 1) rfl))) au au rfl (aa aq) (by kernel_rfl) rfl ?_
 refine aB (i := 9) rfl ah (fb rfl rfl (by omega) (by omega)) au au rfl (aa aq) (by kernel_rfl) rfl ?_
 refine aB (i := 10) rfl ah (ai rfl) au au rfl (aa aq) (by kernel_rfl) rfl ?_
 refine cm (by kernel_rfl) ?_
 refine aj ?_
 refine aH ?_
 refine aN (ts := [2]) rfl rfl rfl (fun w hw => ?_)
 exact ⟨(), rfl, hw.base, (hw.weak (List.nil_sublist _) (fun s hs => hs)).toNews⟩

set_option maxRecDepth 100000 in
theorem c_vfree (v : Vp) (am : Am) (a : Ad) (hv : VOk v) (ha : 0 ≤ a.lo) : RC Tryz.prog 99 #[.pointer (some ⟨v.b, 0, none⟩), .agg (dC a).toArray] [Ch.row v.b (vpC v) 146, Ch.rd v.A 4 dJ v.res, Ch.mp v.ra gE cX am] (α := Unit) (fun _ => .bool (du v.res am a)) (fun _ => []) := by
 refine bh (args := [.pointer (some ⟨v.b, 0, none⟩), .agg (dC a).toArray]) 25 Tryz.func99 rfl rfl rfl (fun w0 => ?_)
 refine ao ?_
 refine ab ?_
 refine bx rfl rfl rfl (fun b1 => ?_)
 refine ap (ai rfl) rfl rfl ?_
 refine ae ?_
 refine aj ?_
 refine ao ?_
 refine ao ?_
 refine dN 11 rfl mixed ?_
 refine aC (i := 0) rfl ah (ak rfl) au au rfl (aa (aa aq)) (by kernel_rfl) rfl ?_
 refine aC (i := 1) rfl ah (bb rfl) au au rfl (aa (aa aq)) (by kernel_rfl) rfl ?_
 refine aC (i := 2) rfl ah (aD gO rfl) au au rfl (aa (aa aq)) (by kernel_rfl) rfl ?_
 refine aC (i := 3) rfl ah (bL 0 ty_144 rfl rfl rfl) au au rfl (aa (aa aq)) (by kernel_rfl) rfl ?_
 refine aC (i := 4) rfl ah (aI 0 aO rfl rfl rfl rfl) au au rfl (aa (aa aq)) (by kernel_rfl) rfl ?_
 refine cr (i := 5) rfl rfl rfl (fun _ _ _ => bo (by kernel_rfl)) (by kernel_rfl) rfl ?_
 refine ap (dF Tryz.underlying144 keyl_ad cW rfl rfl (fun w hw => hw.sh _ (List.mem_of_getElem? (i := 2) rfl))) rfl rfl ?_
 refine ae ?_
 refine br au ?_
 refine d7 (t := 13) (.tuple #[.string (ba ((cK am a).getD [])), .bool (cK am a).isSome]) rfl look2_n ?_
 refine aC (i := 6) rfl ah (ak rfl) au au rfl (aa (aa aq)) (by kernel_rfl) rfl ?_
 refine aC (i := 7) rfl ah (aJ rfl rfl) au au rfl (aa (aa aq)) (by kernel_rfl) rfl ?_
 refine aC (i := 8) rfl ah (aJ rfl rfl) au au rfl (aa (aa aq)) (by kernel_rfl) rfl ?_
 refine wu_splitb (t := 15) rfl (fun h1_8 => ?_) (fun h1_8 => ?_)
 refine aC (i := 9) rfl ah (ai rfl) au au rfl (aa (aa aq)) (by kernel_rfl) rfl ?_
 refine aC (i := 10) rfl ah (ai rfl) au au rfl (aa (aa aq)) (by kernel_rfl) rfl ?_
 refine cu (by kernel_rfl) ?_
 refine aj ?_
 refine ao ?_
 refine ab ?_
 refine ap (ak rfl) rfl rfl ?_
 refine ae ?_
 refine aj ?_
 refine ay rfl ?_
 refine ao ?_
 refine ab ?_
 refine ap (ai rfl) rfl rfl ?_
 refine ae ?_
 refine aj ?_
 refine aH ?_
 refine az ?_
 refine aN (ts := [4]) rfl rfl rfl (fun w hw => ?_)
 refine ⟨(), ?_, hw.base, (hw.weak (List.nil_sublist _) (fun s hs => hs)).toNews⟩
 show Ending.returned (.bool _) = _
 congr 2
 focus first
   | (rw [du, h1_8]; rfl)
   | (trace_state; fail)
 refine aC (i := 9) rfl ah (ai rfl) au au rfl (aa (aa aq)) (by kernel_rfl) rfl ?_
 refine aC (i := 10) rfl ah (ai rfl) au au rfl (aa (aa aq)) (by kernel_rfl) rfl ?_
 refine cu (by kernel_rfl) ?_
 refine aj ?_
 refine ao ?_
 refine ab ?_
 refine ap (ak rfl) rfl rfl ?_
 refine ae ?_
 refine aj ?_
 refine aw rfl ?_
 refine aL ?_
 refine aj ?_
 refine ao ?_
 refine ab ?_
 refine ap (ak rfl) rfl rfl ?_
 refine ap (bb rfl) rfl rfl ?_
 refine ap (aD fy rfl) rfl rfl ?_
 refine ap (aD dV rfl) rfl rfl ?_
 refine ap (bL 0 fS rfl rfl rfl) rfl rfl ?_
 refine ap (dE rfl rfl) rfl rfl ?_
 refine bu rfl ent_157 rfl (c_cntV v.res v.A v.c a b1 hv.res ha hv.len) (fun w hw => (aW (c8 1 rfl hw) (aW (rd_L 0 rfl hw) bf))) ?_
 refine ap (bJ rfl) rfl rfl ?_
 refine ap (ai rfl) rfl rfl ?_
 refine ae ?_
 refine aj ?_
 refine aH ?_
 refine aN (ts := [4]) rfl rfl rfl (fun w hw => ?_)
 refine ⟨(), ?_, hw.base, (hw.weak (List.nil_sublist _) (fun s hs => hs)).toNews⟩
 show Ending.returned (.bool _) = _
 congr 2
 focus first
   | (rw [du, h1_8]; rfl)
   | (trace_state; fail)

set_option maxRecDepth 100000 in
theorem c_vdrop (v : Vp) (hm : Hm) (am : Am) (key : aX) : UC Tryz.prog 104 #[.pointer (some ⟨v.b, 0, none⟩), .string (ba key)] [Ch.row v.b (vpC v) 146] (vmC v hm am) (α := Unit) (fun _ => .tuple #[]) (fun _ => vmC v (dropK hm am key).1 (dropK hm am key).2) := by
 refine eZ (args := [.pointer (some ⟨v.b, 0, none⟩), .string (ba key)]) 20 Tryz.func104 rfl rfl rfl (fun w0 => ?_)
 refine eX (fun w h => h.untwo) ?_
 refine ao ?_
 refine dN 11 rfl mixed ?_
 refine aC (i := 0) rfl ah (ak rfl) au au rfl (aa aq) (by kernel_rfl) rfl ?_
 refine aC (i := 1) rfl ah (bb rfl) au au rfl (aa aq) (by kernel_rfl) rfl ?_
 refine aC (i := 2) rfl ah (aD gO rfl) au au rfl (aa aq) (by kernel_rfl) rfl ?_
 refine aC (i := 3) rfl ah (bL 0 ty_144 rfl rfl rfl) au au rfl (aa aq) (by kernel_rfl) rfl ?_
 refine aC (i := 4) rfl ah (ak rfl) au au rfl (aa aq) (by kernel_rfl) rfl ?_
 refine aC (i := 5) rfl ah (bb rfl) au au rfl (aa aq) (by kernel_rfl) rfl ?_
 refine aC (i := 6) rfl ah (aD dA rfl) au au rfl (aa aq) (by kernel_rfl) rfl ?_
 refine aC (i := 7) rfl ah (bL 0 eB rfl rfl rfl) au au rfl (aa aq) (by kernel_rfl) rfl ?_
 refine aC (i := 8) rfl ah (ak rfl) au au rfl (aa aq) (by kernel_rfl) rfl ?_
 refine cr (i := 9) rfl rfl rfl (fun _ _ _ => bo (by kernel_rfl)) (by kernel_rfl) rfl ?_
 refine ap (y_lookup Tryz.underlying143 (c7 Tryz.underlying26) bS rfl rfl (fun w hw => hw.own _ (List.mem_of_getElem? (i := 0) rfl))) rfl rfl ?_
 refine ae ?_
 refine br au ?_
 refine d7 (t := 13) (.agg (hdC ((cK hm key).getD d2)).toArray) rfl look1_hd ?_
 refine aC (i := 10) rfl ah (y_fieldv (v := .agg (dC ((cK hm key).getD d2).ad).toArray) rfl (fun w => by kernel_rfl)) au au rfl (aa aq) (by kernel_rfl) rfl ?_
 refine cr (i := 11) rfl rfl rfl (fun _ _ _ => bo (by kernel_rfl)) (by kernel_rfl) rfl ?_
 refine o_mapDel (encK := gE) (encV := cX) (a := ((cK hm key).getD d2).ad) Tryz.underlying144 keyl_ad rfl rfl (.s (.z)) ?_
 refine ae ?_
 refine eu_tail rfl ?_
 refine cu (by kernel_rfl) ?_
 refine aj ?_
 refine ab ?_
 refine ap (ak rfl) rfl rfl ?_
 refine ap (bb rfl) rfl rfl ?_
 refine ap (aD dA rfl) rfl rfl ?_
 refine ap (bL 0 eB rfl rfl rfl) rfl rfl ?_
 refine ap (ak rfl) rfl rfl ?_
 refine o_mapDel (encK := cX) (encV := c5) (a := key) Tryz.underlying143 (c7 Tryz.underlying26) rfl rfl .z ?_
 refine ae ?_
 refine e_end (ts := []) rfl rfl rfl (fun w hw => ?_)
 obtain ⟨h1, h2, h3⟩ := hw.two.uc
 exact ⟨(), rfl, h1, h2, h3⟩

theorem c_vDrop (v : Vp) (hm : Hm) (am : Am) (n : aX) (hn : n.length ≤ 1000000000) : UC Tryz.prog 38 #[.pointer (some ⟨v.b, 0, none⟩), .string (ba n)] [Ch.row v.b (vpC v) 146] (vmC v hm am) (α := Unit) (fun o => .int .i64 (cV hm am n).1) (fun o => vmC v (cV hm am n).2.1 (cV hm am n).2.2) := by
 refine eZ (args := [.pointer (some ⟨v.b, 0, none⟩), .string (ba n)]) 31 Tryz.func38 rfl rfl rfl (fun w0 => ?_)
 refine eX (fun w h => h.untwo) ?_
 refine ao ?_
 refine ab ?_
 refine ap (ai rfl) rfl rfl ?_
 refine ae ?_
 refine aj ?_
 refine ao ?_
 refine aT ?_
 refine ao ?_
 refine ab ?_
 refine ap (ak rfl) rfl rfl ?_
 refine ap (gp Tryz.underlying68 rfl rfl) rfl rfl ?_
 refine bW (t := 10) (.bool false) rfl (congrArg Value.bool rfl) ?_
 refine ap (ai rfl) rfl rfl ?_
 refine ae ?_
 refine aj ?_
 refine aw rfl ?_
 refine ao ?_
 refine ab ?_
 refine ap (ak rfl) rfl rfl ?_
 refine aR rfl ent_95 (c_vhost _) rfl ?_
 refine bl (t := 13) rfl (fun h3_1 => ?_) (fun h3_1 => ?_)
 refine ap (bJ rfl) rfl rfl ?_
 refine ap (ai rfl) rfl rfl ?_
 refine ae ?_
 refine aj ?_
 refine aw rfl ?_
 refine aL ?_
 refine bw ?_
 refine aj ?_
 refine ao ?_
 refine ab ?_
 refine ap (ak rfl) rfl rfl ?_
 refine aR rfl gm (dP _ (by omega)) rfl ?_
 refine ap (ai rfl) rfl rfl ?_
 refine ae ?_
 refine aj ?_
 refine ao ?_
 refine ao ?_
 refine ab ?_
 refine ap (ak rfl) rfl rfl ?_
 refine ap (bb rfl) rfl rfl ?_
 refine ap (aD dA rfl) rfl rfl ?_
 refine ap (bL 0 eB rfl rfl rfl) rfl rfl ?_
 refine ap (ak rfl) rfl rfl ?_
 refine ap (dF Tryz.underlying143 (c7 Tryz.underlying26) bS rfl rfl (fun w hw => hw.own _ (List.mem_of_getElem? (i := 0) rfl))) rfl rfl ?_
 refine bW (t := 23) (.tuple #[.agg (hdC ((cK hm (aY n)).getD d2)).toArray, .bool (cK hm (aY n)).isSome]) rfl eM ?_
 refine ap (ak rfl) rfl rfl ?_
 refine ap (aJ rfl rfl) rfl rfl ?_
 refine ap (aJ rfl rfl) rfl rfl ?_
 refine bl (t := 25) rfl (fun h6_8 => ?_) (fun h6_8 => ?_)
 refine bj bS rfl rfl (fun b1 => ?_)
 refine aS bS rfl rfl rfl .z rfl rfl rfl rfl ?_
 refine ap (ai rfl) rfl rfl ?_
 refine ae ?_
 refine aj ?_
 refine ao ?_
 refine ab ?_
 refine ap (ak rfl) rfl rfl ?_
 refine ap (bJ rfl) rfl rfl ?_
 refine ae ?_
 refine aj ?_
 refine aw rfl ?_
 refine aL ?_
 refine aj ?_
 refine ao ?_
 refine ab ?_
 refine ap (ak rfl) rfl rfl ?_
 refine ap (ak rfl) rfl rfl ?_
 refine fc (fun w h => h.f2.f2.two) ?_
 refine cD rfl ent_104 rfl (c_vdrop v hm am (aY n)) (fun o => .z) (List.mem_of_getElem? (i := 0) rfl) (fun s hs => (List.mem_singleton.1 hs) ▸ .head _) (fun o1 => ?_)
 refine fc (fun w h => h.untwo) ?_
 refine ae ?_
 refine aj ?_
 refine ao ?_
 refine ab ?_
 refine ap (ai rfl) rfl rfl ?_
 refine ae ?_
 refine aj ?_
 refine aH ?_
 refine aN (ts := [4]) rfl rfl rfl (fun w hw => ?_)
 obtain ⟨h1, h2, h3⟩ := (hw.weak (.cons_cons _ (.cons_cons _ (.cons _ .slnil))) (fun s hs => hs)).f1.f1.two.uc
 focus first
   | (have hE : cV hm am n = (2, hm, am) := if_pos h3_1
      rw [hE]
      exact ⟨(), rfl, h1, h2, h3⟩)
   | (have hE : cV hm am n = (5, hm, am) := by rw [cV, if_neg (by rw [h3_1]; decide), if_pos h6_8]
      rw [hE]
      exact ⟨(), rfl, h1, h2, h3⟩)
   | (have hE : cV hm am n = (0, dropK hm am (aY n)) := by rw [cV, if_neg (by rw [h3_1]; decide), if_neg (by rw [h6_8]; decide)]
      rw [hE]
      exact ⟨(), rfl, h1, h2, h3⟩)
   | (trace_state; fail)
 refine bj bS rfl rfl (fun b3 => ?_)
 refine aS bS rfl rfl rfl .z rfl rfl rfl rfl ?_
 refine ap (ai rfl) rfl rfl ?_
 refine ae ?_
 refine aj ?_
 refine ao ?_
 refine ab ?_
 refine ap (ak rfl) rfl rfl ?_
 refine ap (bJ rfl) rfl rfl ?_
 refine ae ?_
 refine aj ?_
 refine ay rfl ?_
 refine ao ?_
 refine ab ?_
 refine ap (ai rfl) rfl rfl ?_
 refine ae ?_
 refine aj ?_
 refine aH ?_
 refine az ?_
 refine aN (ts := [4]) rfl rfl rfl (fun w hw => ?_)
 obtain ⟨h1, h2, h3⟩ := (hw.weak (.cons _ (.cons_cons _ (.cons_cons _ .slnil))) (fun s hs => hs)).f1.f1.two.uc
 focus first
   | (have hE : cV hm am n = (2, hm, am) := if_pos h3_1
      rw [hE]
      exact ⟨(), rfl, h1, h2, h3⟩)
   | (have hE : cV hm am n = (5, hm, am) := by rw [cV, if_neg (by rw [h3_1]; decide), if_pos h6_8]
      rw [hE]
      exact ⟨(), rfl, h1, h2, h3⟩)
   | (have hE : cV hm am n = (0, dropK hm am (aY n)) := by rw [cV, if_neg (by rw [h3_1]; decide), if_neg (by rw [h6_8]; decide)]
      rw [hE]
      exact ⟨(), rfl, h1, h2, h3⟩)
   | (trace_state; fail)
 refine ap (bJ rfl) rfl rfl ?_
 refine ap (ai rfl) rfl rfl ?_
 refine ae ?_
 refine aj ?_
 refine ay rfl ?_
 refine ao ?_
 refine ab ?_
 refine ap (ai rfl) rfl rfl ?_
 refine ae ?_
 refine aj ?_
 refine aH ?_
 refine aU ?_
 refine az ?_
 refine aN (ts := [4]) rfl rfl rfl (fun w hw => ?_)
 obtain ⟨h1, h2, h3⟩ := (hw.weak (.cons_cons _ (.cons_cons _ .slnil)) (fun s hs => hs)).f1.f1.two.uc
 focus first
   | (have hE : cV hm am n = (2, hm, am) := if_pos h3_1
      rw [hE]
      exact ⟨(), rfl, h1, h2, h3⟩)
   | (have hE : cV hm am n = (5, hm, am) := by rw [cV, if_neg (by rw [h3_1]; decide), if_pos h6_8]
      rw [hE]
      exact ⟨(), rfl, h1, h2, h3⟩)
   | (have hE : cV hm am n = (0, dropK hm am (aY n)) := by rw [cV, if_neg (by rw [h3_1]; decide), if_neg (by rw [h6_8]; decide)]
      rw [hE]
      exact ⟨(), rfl, h1, h2, h3⟩)
   | (trace_state; fail)

set_option maxRecDepth 100000 in
theorem c_vOf (v : Vp) (hm : Hm) (n : aX) (hn : n.length ≤ 1000000000) : RC Tryz.prog 37 #[.pointer (some ⟨v.b, 0, none⟩), .string (ba n)] [Ch.row v.b (vpC v) 146, Ch.mp v.rh cX c5 hm] (α := Unit) (fun _ => .tuple #[.agg (dC (ofV hm n).1).toArray, .bool (ofV hm n).2]) (fun _ => []) := by
 refine bh (args := [.pointer (some ⟨v.b, 0, none⟩), .string (ba n)]) 29 Tryz.func37 rfl rfl rfl (fun w0 => ?_)
 refine ao ?_
 refine ab ?_
 refine bj aO rfl rfl (fun b1 => ?_)
 refine ap (ai rfl) rfl rfl ?_
 refine ae ?_
 refine aj ?_
 refine ao ?_
 refine ao ?_
 refine ab ?_
 refine ap (ak rfl) rfl rfl ?_
 refine ap (gp Tryz.underlying68 rfl rfl) rfl rfl ?_
 refine bW (t := 9) (.bool false) rfl (congrArg Value.bool rfl) ?_
 refine ap (ak rfl) rfl rfl ?_
 refine aA rfl rfl ?_
 refine ap (ak rfl) rfl rfl ?_
 refine aA rfl rfl ?_
 refine aR rfl ent_95 (c_vhost _) rfl ?_
 refine bl (t := 12) rfl (fun h1_4 => ?_) (fun h1_4 => ?_)
 refine aA rfl rfl ?_
 refine ap (bJ rfl) rfl rfl ?_
 refine ap (aQ rfl rfl) rfl rfl ?_
 refine ae ?_
 refine aj ?_
 refine aw rfl ?_
 refine aL ?_
 refine aj ?_
 refine ao ?_
 refine dN 13 rfl mixed ?_
 refine aC (i := 0) rfl ah (ak rfl) au au rfl (aa aq) (by kernel_rfl) rfl ?_
 refine aC (i := 1) rfl ah (bb rfl) au au rfl (aa aq) (by kernel_rfl) rfl ?_
 refine aC (i := 2) rfl ah (aD dA rfl) au au rfl (aa aq) (by kernel_rfl) rfl ?_
 refine aC (i := 3) rfl ah (bL 0 eB rfl rfl rfl) au au rfl (aa aq) (by kernel_rfl) rfl ?_
 refine aC (i := 4) rfl ah (ak rfl) au au rfl (aa aq) (by kernel_rfl) rfl ?_
 refine f9 (js := [5, 10]) (by kernel_rfl) rfl ?_
 refine cy (i := 5) rfl rfl rfl (a8 rfl gm) rfl ?_ ?_
 refine aR rfl gm (dP _ (by omega)) rfl ?_
 refine ae ?_
 refine br au ?_
 refine f9 (js := [6, 10]) (by kernel_rfl) rfl ?_
 refine cy (i := 6) rfl rfl rfl (fun _ _ _ => bo (by kernel_rfl)) rfl ?_ ?_
 refine ap (dF Tryz.underlying143 (c7 Tryz.underlying26) bS rfl rfl (fun w hw => hw.sh _ (List.mem_of_getElem? (i := 1) rfl))) rfl rfl ?_
 refine ae ?_
 refine br au ?_
 refine d7 (t := 23) (.tuple #[.agg (hdC ((cK hm (aY n)).getD d2)).toArray, .bool (cK hm (aY n)).isSome]) rfl eM ?_
 refine aC (i := 7) rfl ah (ak rfl) au au rfl (aa aq) (by kernel_rfl) rfl ?_
 refine aC (i := 8) rfl ah (aJ rfl rfl) au au rfl (aa aq) (by kernel_rfl) rfl ?_
 refine aC (i := 9) rfl ah (aJ rfl rfl) au au rfl (aa aq) (by kernel_rfl) rfl ?_
 refine cr (i := 10) rfl rfl rfl (fun _ _ _ => bo (by kernel_rfl)) (by kernel_rfl) rfl ?_
 refine bj bS rfl rfl (fun b2 => ?_)
 refine ae ?_
 refine br (bP 1) ?_
 refine cr (i := 11) rfl rfl rfl (fun _ _ _ => bo (by kernel_rfl)) (by kernel_rfl) rfl ?_
 refine aS bS rfl rfl rfl .z rfl rfl rfl rfl ?_
 refine ae ?_
 refine br (bP 1) ?_
 refine aC (i := 12) rfl ah (ai rfl) (bP 1) au rfl (aa aq) (by kernel_rfl) rfl ?_
 refine cu (by kernel_rfl) ?_
 refine aj ?_
 refine ao ?_
 refine ab ?_
 refine ap (aD dy rfl) rfl rfl ?_
 refine ap (aI 0 aO rfl rfl rfl rfl) rfl rfl ?_
 refine ap (ak rfl) rfl rfl ?_
 refine aS aO rfl rfl rfl (.s (.z)) rfl rfl rfl rfl ?_
 refine ap (ai rfl) rfl rfl ?_
 refine ae ?_
 refine aj ?_
 refine aH ?_
 refine dp (rs := [.cell 4 29, .tmp 5]) rfl (bq 1 aO rfl rfl rfl rfl (cE rfl bM)) rfl (fun w hw => ?_)
 focus first
   | (have hE : ofV hm n = (ad0, false) := if_pos h1_4
      rw [hE]
      exact ⟨(), rfl, hw.base, (hw.weak (List.nil_sublist _) (fun s hs => hs)).toNews⟩)
   | (have hE : ofV hm n = (((cK hm (aY n)).getD d2).ad, (cK hm (aY n)).isSome) := if_neg (by rw [h1_4]; decide)
      rw [hE]
      exact ⟨(), rfl, hw.base, (hw.weak (List.nil_sublist _) (fun s hs => hs)).toNews⟩)
   | (trace_state; fail)
 refine cy (i := 10) rfl rfl rfl (fun _ _ _ => bo (by kernel_rfl)) rfl ?_ ?_
 refine bj bS rfl rfl (fun b3 => ?_)
 refine ae ?_
 refine br (bP 1) ?_
 refine cr (i := 6) rfl rfl rfl (fun _ _ _ => bo (by kernel_rfl)) (by kernel_rfl) rfl ?_
 refine ap (dF Tryz.underlying143 (c7 Tryz.underlying26) bS rfl rfl (fun w hw => hw.sh _ (List.mem_of_getElem? (i := 1) rfl))) rfl rfl ?_
 refine ae ?_
 refine br (bP 1) ?_
 refine d7 (t := 23) (.tuple #[.agg (hdC ((cK hm (aY n)).getD d2)).toArray, .bool (cK hm (aY n)).isSome]) rfl eM ?_
 refine aC (i := 7) rfl ah (ak rfl) (bP 1) au rfl (aa aq) (by kernel_rfl) rfl ?_
 refine aC (i := 8) rfl ah (aJ rfl rfl) (bP 1) au rfl (aa aq) (by kernel_rfl) rfl ?_
 refine aC (i := 9) rfl ah (aJ rfl rfl) (bP 1) au rfl (aa aq) (by kernel_rfl) rfl ?_
 refine cr (i := 11) rfl rfl rfl (fun _ _ _ => bo (by kernel_rfl)) (by kernel_rfl) rfl ?_
 refine aS bS rfl rfl rfl .z rfl rfl rfl rfl ?_
 refine ae ?_
 refine br (bP 1) ?_
 refine aC (i := 12) rfl ah (ai rfl) (bP 1) au rfl (aa aq) (by kernel_rfl) rfl ?_
 refine cu (by kernel_rfl) ?_
 refine aj ?_
 refine ao ?_
 refine ab ?_
 refine ap (aD dy rfl) rfl rfl ?_
 refine ap (aI 0 aO rfl rfl rfl rfl) rfl rfl ?_
 refine ap (ak rfl) rfl rfl ?_
 refine aS aO rfl rfl rfl (.s (.z)) rfl rfl rfl rfl ?_
 refine ap (ai rfl) rfl rfl ?_
 refine ae ?_
 refine aj ?_
 refine aH ?_
 refine dp (rs := [.cell 4 29, .tmp 5]) rfl (bq 1 aO rfl rfl rfl rfl (cE rfl bM)) rfl (fun w hw => ?_)
 focus first
   | (have hE : ofV hm n = (ad0, false) := if_pos h1_4
      rw [hE]
      exact ⟨(), rfl, hw.base, (hw.weak (List.nil_sublist _) (fun s hs => hs)).toNews⟩)
   | (have hE : ofV hm n = (((cK hm (aY n)).getD d2).ad, (cK hm (aY n)).isSome) := if_neg (by rw [h1_4]; decide)
      rw [hE]
      exact ⟨(), rfl, hw.base, (hw.weak (List.nil_sublist _) (fun s hs => hs)).toNews⟩)
   | (trace_state; fail)
 exact eY
 refine cy (i := 10) rfl rfl rfl (fun _ _ _ => bo (by kernel_rfl)) rfl ?_ ?_
 refine bj bS rfl rfl (fun b4 => ?_)
 refine ae ?_
 refine br (bP 1) ?_
 refine cr (i := 5) rfl rfl rfl (a8 rfl gm) (by kernel_rfl) rfl ?_
 refine aR rfl gm (dP _ (by omega)) rfl ?_
 refine ae ?_
 refine br (bP 1) ?_
 refine cr (i := 6) rfl rfl rfl (fun _ _ _ => bo (by kernel_rfl)) (by kernel_rfl) rfl ?_
 refine ap (dF Tryz.underlying143 (c7 Tryz.underlying26) bS rfl rfl (fun w hw => hw.sh _ (List.mem_of_getElem? (i := 1) rfl))) rfl rfl ?_
 refine ae ?_
 refine br (bP 1) ?_
 refine d7 (t := 23) (.tuple #[.agg (hdC ((cK hm (aY n)).getD d2)).toArray, .bool (cK hm (aY n)).isSome]) rfl eM ?_
 refine aC (i := 7) rfl ah (ak rfl) (bP 1) au rfl (aa aq) (by kernel_rfl) rfl ?_
 refine aC (i := 8) rfl ah (aJ rfl rfl) (bP 1) au rfl (aa aq) (by kernel_rfl) rfl ?_
 refine aC (i := 9) rfl ah (aJ rfl rfl) (bP 1) au rfl (aa aq) (by kernel_rfl) rfl ?_
 refine cr (i := 11) rfl rfl rfl (fun _ _ _ => bo (by kernel_rfl)) (by kernel_rfl) rfl ?_
 refine aS bS rfl rfl rfl .z rfl rfl rfl rfl ?_
 refine ae ?_
 refine br (bP 1) ?_
 refine aC (i := 12) rfl ah (ai rfl) (bP 1) au rfl (aa aq) (by kernel_rfl) rfl ?_
 refine cu (by kernel_rfl) ?_
 refine aj ?_
 refine ao ?_
 refine ab ?_
 refine ap (aD dy rfl) rfl rfl ?_
 refine ap (aI 0 aO rfl rfl rfl rfl) rfl rfl ?_
 refine ap (ak rfl) rfl rfl ?_
 refine aS aO rfl rfl rfl (.s (.z)) rfl rfl rfl rfl ?_
 refine ap (ai rfl) rfl rfl ?_
 refine ae ?_
 refine aj ?_
 refine aH ?_
 refine dp (rs := [.cell 4 29, .tmp 5]) rfl (bq 1 aO rfl rfl rfl rfl (cE rfl bM)) rfl (fun w hw => ?_)
 focus first
   | (have hE : ofV hm n = (ad0, false) := if_pos h1_4
      rw [hE]
      exact ⟨(), rfl, hw.base, (hw.weak (List.nil_sublist _) (fun s hs => hs)).toNews⟩)
   | (have hE : ofV hm n = (((cK hm (aY n)).getD d2).ad, (cK hm (aY n)).isSome) := if_neg (by rw [h1_4]; decide)
      rw [hE]
      exact ⟨(), rfl, hw.base, (hw.weak (List.nil_sublist _) (fun s hs => hs)).toNews⟩)
   | (trace_state; fail)
 exact eY
 refine aA rfl rfl ?_
 refine ap (bJ rfl) rfl rfl ?_
 refine ap (aQ rfl rfl) rfl rfl ?_
 refine ae ?_
 refine aj ?_
 refine ay rfl ?_
 refine ao ?_
 refine ab ?_
 refine ap (bN rfl (eJ)) rfl rfl ?_
 refine aS aO rfl rfl rfl .z rfl rfl rfl rfl ?_
 refine ap (ai rfl) rfl rfl ?_
 refine ae ?_
 refine aj ?_
 refine aH ?_
 refine az ?_
 refine dp (rs := [.cell 4 29, .tmp 5]) rfl (bq 0 aO rfl rfl rfl rfl (cE rfl bM)) rfl (fun w hw => ?_)
 focus first
   | (have hE : ofV hm n = (ad0, false) := if_pos h1_4
      rw [hE]
      exact ⟨(), rfl, hw.base, (hw.weak (List.nil_sublist _) (fun s hs => hs)).toNews⟩)
   | (have hE : ofV hm n = (((cK hm (aY n)).getD d2).ad, (cK hm (aY n)).isSome) := if_neg (by rw [h1_4]; decide)
      rw [hE]
      exact ⟨(), rfl, hw.base, (hw.weak (List.nil_sublist _) (fun s hs => hs)).toNews⟩)
   | (trace_state; fail)

theorem fK {n : aX} {slots : Nat} {e : Int} (h : e ∈ dh n slots) : 0 ≤ e ∧ e < slots := by
  obtain ⟨k, hk, rfl⟩ := List.mem_iff_getElem.1 h
  rw [cA] at hk
  have h1 := ee n slots k hk
  rw [List.getD_eq_getElem?_getD, List.getElem?_eq_getElem (by rw [cA]; exact hk)] at h1
  have h2 := atH_rng (n := n) (slots := slots) (by omega) k
  have h3 : (dh n slots)[k]'(by rw [cA]; exact hk) = atH n slots k := h1
  rw [h3]; exact h2
theorem atR_lo (r : Rg) (i : Int) : 0 ≤ (atR r i).1.lo := by
  unfold atR
  split
  · exact ad0_lo
  · exact addA_lo _ _

set_option maxRecDepth 100000 in
set_option maxHeartbeats 4000000 in
theorem c_vGive (v : Vp) (hm : Hm) (am : Am) (n : aX) (hv : VOk v) (hn : n.length ≤ 1000000000) (hml : hm.length ≤ 1000000) : UC Tryz.prog 34 #[.pointer (some ⟨v.b, 0, none⟩), .string (ba n)] [Ch.row v.b (vpC v) 146, Ch.rd v.A 4 dJ v.res] (vmC v hm am) (α := Unit) (fun o => .tuple #[.agg (dC (bI v hm am n).1.1).toArray, .int .i64 (bI v hm am n).1.2]) (fun o => vmC v (bI v hm am n).2.1 (bI v hm am n).2.2) := by
 refine uc_of_WM (args := [.pointer (some ⟨v.b, 0, none⟩), .string (ba n)]) 81 Tryz.func34 rfl rfl rfl (fun w0 => ?_)
 refine eX (fun w h => h.untwo) ?_
 refine ao ?_
 refine ab ?_
 refine bx rfl rfl rfl (fun b1 => ?_)
 refine bx rfl rfl rfl (fun b2 => ?_)
 refine bj aO rfl rfl (fun b3 => ?_)
 refine bj dw rfl rfl (fun b4 => ?_)
 refine ae ?_
 refine aj ?_
 refine ao ?_
 refine aT ?_
 refine ao ?_
 refine ab ?_
 refine ap (aM 3 ep rfl rfl rfl) rfl rfl ?_
 refine ap (gp Tryz.underlying68 rfl rfl) rfl rfl ?_
 refine bW (t := 14) (.bool false) rfl (congrArg Value.bool rfl) ?_
 refine ap (ai rfl) rfl rfl ?_
 refine ae ?_
 refine aj ?_
 refine aw rfl ?_
 refine ao ?_
 refine ab ?_
 refine ap (aM 2 cW rfl rfl rfl) rfl rfl ?_
 refine aR rfl ent_95 (c_vhost _) rfl ?_
 refine bl (t := 18) rfl (fun h3_1 => ?_) (fun h3_1 => ?_)
 refine ap (bJ rfl) rfl rfl ?_
 refine ap (ai rfl) rfl rfl ?_
 refine ae ?_
 refine aj ?_
 refine aw rfl ?_
 refine aL ?_
 refine bw ?_
 refine aj ?_
 refine ao ?_
 refine ab ?_
 refine ap (aM 2 cW rfl rfl rfl) rfl rfl ?_
 refine aR rfl gm (dP _ (by omega)) rfl ?_
 refine bj cW rfl rfl (fun b5 => ?_)
 refine aS cW rfl rfl rfl .z rfl rfl rfl rfl ?_
 refine ae ?_
 refine aj ?_
 refine ao ?_
 refine ao ?_
 refine w_drawV 12 mixed ?_
 refine bd (i := 0) rfl ah (aM 4 ep rfl rfl rfl) au au rfl (aa (aa aq)) (by kernel_rfl) rfl ?_
 refine bd (i := 1) rfl ah (bb rfl) au au rfl (aa (aa aq)) (by kernel_rfl) rfl ?_
 refine bd (i := 2) rfl ah (aD dA rfl) au au rfl (aa (aa aq)) (by kernel_rfl) rfl ?_
 refine bd (i := 3) rfl ah (bL 0 eB rfl rfl rfl) au au rfl (aa (aa aq)) (by kernel_rfl) rfl ?_
 refine bd (i := 4) rfl ah (aM 0 cW rfl rfl rfl) au au rfl (aa (aa aq)) (by kernel_rfl) rfl ?_
 refine v_many (js := [5, 9]) (by kernel_rfl) rfl ?_
 refine wrv_cons (i := 5) rfl rfl ?_ ?_
 refine ap (dF Tryz.underlying143 (c7 Tryz.underlying26) bS rfl rfl (fun w hw => hw.own _ (List.mem_of_getElem? (i := 5) rfl))) rfl rfl ?_
 refine ae ?_
 refine cz au ?_
 refine wv_as (t := 29) (.tuple #[.agg (hdC ((cK hm (aY n)).getD d2)).toArray, .bool (cK hm (aY n)).isSome]) rfl eM ?_
 refine bd (i := 6) rfl ah (ak rfl) au au rfl (aa (aa aq)) (by kernel_rfl) rfl ?_
 refine bd (i := 7) rfl ah (aJ rfl rfl) au au rfl (aa (aa aq)) (by kernel_rfl) rfl ?_
 refine bd (i := 8) rfl ah (aJ rfl rfl) au au rfl (aa (aa aq)) (by kernel_rfl) rfl ?_
 refine wv_splitb (t := 31) rfl (fun h6_8 => ?_) (fun h6_8 => ?_)
 refine dz (i := 9) rfl (by kernel_rfl) rfl ?_
 refine bj bS rfl rfl (fun b6 => ?_)
 refine ae ?_
 refine cz (bP 1) ?_
 refine dz (i := 10) rfl (by kernel_rfl) rfl ?_
 refine aS bS rfl rfl rfl .z rfl rfl rfl rfl ?_
 refine ae ?_
 refine cz (bP 1) ?_
 refine bd (i := 11) rfl ah (ai rfl) (bP 1) au rfl (aa (aa aq)) (by kernel_rfl) rfl ?_
 refine fo (by kernel_rfl) ?_
 refine aj ?_
 refine ao ?_
 refine ab ?_
 refine ap (ak rfl) rfl rfl ?_
 refine ae ?_
 refine aj ?_
 refine ay rfl ?_
 refine ao ?_
 refine ab ?_
 refine ap (aD dy rfl) rfl rfl ?_
 refine ap (aI 0 aO rfl rfl rfl rfl) rfl rfl ?_
 refine aS aO rfl rfl rfl (.s (.s (.s (.z)))) rfl rfl rfl rfl ?_
 refine aS dw rfl rfl rfl (.s (.s (.z))) rfl rfl rfl rfl ?_
 refine ae ?_
 refine aj ?_
 refine aH ?_
 refine az ?_
 refine fe ?_
 refine dT (rs := [.cell 4 29, .cell 5 40]) rfl (bq 3 aO rfl rfl rfl rfl (d1 2 dw rfl rfl rfl bM)) (fun w hw => ?_)
 obtain ⟨h1, h2, h3⟩ := (hw.weak (.cons _ (.cons _ (.cons _ (.cons _ (.cons _ (.cons _ (.cons_cons _ (.cons_cons _ .slnil)))))))) (fun s hs => hs)).f1.f1.two.uc
 focus first
   | (have hE := c9 (v := v) (hm := hm) (am := am) h3_1
      rw [hE]
      exact ⟨(), rfl, h1, h2, h3⟩)
   | (have hE := cO (v := v) (am := am) h3_1 h6_8
      rw [hE]
      exact ⟨(), rfl, h1, h2, h3⟩)
   | (have hE := cv (am := am) h3_1 h6_8 h9_2
      rw [hE]
      exact ⟨(), rfl, h1, h2, h3⟩)
   | (have hE := bV (am := am) h3_1 h6_8 h9_2 (show bB v am n = none from hpf)
      rw [hE]
      exact ⟨(), rfl, h1, h2, h3⟩)
   | (have hq : bB v am n = g := by
        rw [bB, hxs, List.find?_append, ← hq9]
        cases g with
        | none => cases hqs
        | some y => rfl
      have hE := bV (am := am) h3_1 h6_8 h9_2 hq
      rw [hqs, if_pos rfl] at hE
      rw [hE]
      exact ⟨(), rfl, h1, h2, h3⟩)
   | (trace_state; fail)
 refine dz (i := 9) rfl (by kernel_rfl) rfl ?_
 refine bj bS rfl rfl (fun b7 => ?_)
 refine ae ?_
 refine cz (bP 1) ?_
 refine dz (i := 10) rfl (by kernel_rfl) rfl ?_
 refine aS bS rfl rfl rfl .z rfl rfl rfl rfl ?_
 refine ae ?_
 refine cz (bP 1) ?_
 refine bd (i := 11) rfl ah (ai rfl) (bP 1) au rfl (aa (aa aq)) (by kernel_rfl) rfl ?_
 refine fo (by kernel_rfl) ?_
 refine aj ?_
 refine ao ?_
 refine ab ?_
 refine ap (ak rfl) rfl rfl ?_
 refine ae ?_
 refine aj ?_
 refine aw rfl ?_
 refine aL ?_
 refine aj ?_
 refine ao ?_
 refine ao ?_
 refine ab ?_
 refine ap (aM 5 ep rfl rfl rfl) rfl rfl ?_
 refine bu rfl ent_35 rfl (c_vFree v hm hv hml) (fun w hw => (aW (c8 0 rfl hw) (aW (rd_L 6 rfl hw) bf))) ?_
 refine ap (dl rfl rfl) rfl rfl ?_
 refine aG (t := 37) rfl (fun h9_2 => ?_) (fun h9_2 => ?_)
 refine ae ?_
 refine aj ?_
 refine ay rfl ?_
 refine ao ?_
 refine ab ?_
 refine ap (bN rfl (eJ)) rfl rfl ?_
 refine aS aO rfl rfl rfl (.s (.s (.s (.z)))) rfl rfl rfl rfl ?_
 refine aS dw rfl rfl rfl (.s (.s (.z))) rfl rfl rfl rfl ?_
 refine ae ?_
 refine aj ?_
 refine aH ?_
 refine az ?_
 refine fe ?_
 refine dT (rs := [.cell 4 29, .cell 5 40]) rfl (bq 3 aO rfl rfl rfl rfl (d1 2 dw rfl rfl rfl bM)) (fun w hw => ?_)
 obtain ⟨h1, h2, h3⟩ := (hw.weak (.cons _ (.cons _ (.cons _ (.cons _ (.cons _ (.cons _ (.cons_cons _ (.cons_cons _ .slnil)))))))) (fun s hs => hs)).f1.f1.two.uc
 focus first
   | (have hE := c9 (v := v) (hm := hm) (am := am) h3_1
      rw [hE]
      exact ⟨(), rfl, h1, h2, h3⟩)
   | (have hE := cO (v := v) (am := am) h3_1 h6_8
      rw [hE]
      exact ⟨(), rfl, h1, h2, h3⟩)
   | (have hE := cv (am := am) h3_1 h6_8 h9_2
      rw [hE]
      exact ⟨(), rfl, h1, h2, h3⟩)
   | (have hE := bV (am := am) h3_1 h6_8 h9_2 (show bB v am n = none from hpf)
      rw [hE]
      exact ⟨(), rfl, h1, h2, h3⟩)
   | (have hq : bB v am n = g := by
        rw [bB, hxs, List.find?_append, ← hq9]
        cases g with
        | none => cases hqs
        | some y => rfl
      have hE := bV (am := am) h3_1 h6_8 h9_2 hq
      rw [hqs, if_pos rfl] at hE
      rw [hE]
      exact ⟨(), rfl, h1, h2, h3⟩)
   | (trace_state; fail)
 refine ae ?_
 refine aj ?_
 refine aw rfl ?_
 refine aL ?_
 refine aj ?_
 refine ao ?_
 refine ao ?_
 have hsl := dB v.rg
 refine w_drawV 8 mixed ?_
 refine bd (i := 0) rfl ah (aM 4 cW rfl rfl rfl) au au rfl (aa (aa aq)) (by kernel_rfl) rfl ?_
 refine bd (i := 1) rfl ah (aM 5 ep rfl rfl rfl) au au rfl (aa (aa aq)) (by kernel_rfl) rfl ?_
 refine bd (i := 2) rfl ah (bb rfl) au au rfl (aa (aa aq)) (by kernel_rfl) rfl ?_
 refine bd (i := 3) rfl ah (aD fy rfl) au au rfl (aa (aa aq)) (by kernel_rfl) rfl ?_
 refine bd (i := 4) rfl ah (aD dZ rfl) au au rfl (aa (aa aq)) (by kernel_rfl) rfl ?_
 refine bd (i := 5) rfl ah (dn 0 bR rfl rfl rfl rfl) au au rfl (aa (aa aq)) (by kernel_rfl) rfl ?_
 refine dz (i := 6) rfl (by kernel_rfl) rfl ?_
 refine aR rfl ent_97 (c_rSize v.rg hv.rg.lo.1) rfl ?_
 refine ae ?_
 refine cz au ?_
 refine dz (i := 7) rfl (by kernel_rfl) rfl ?_
 refine o_callr2 rfl ent_96 rfl (gQ n (bk v.rg)) (fun w hw => bf) (fun ⟨p7, q7⟩ => ?_)
 refine ae ?_
 refine cz (bP 2) ?_
 refine wv_heap (fun w h => h.freeze.freeze) ?_
 refine fo (by kernel_rfl) ?_
 refine aj ?_
 refine aT ?_
 refine eX (fun w h => h.weak (.cons _ (.cons_cons _ (.cons_cons _ (.cons_cons _ (.cons_cons _ (.cons_cons _ (.cons_cons _ (.cons_cons _ .slnil)))))))) (fun s hs => hs)) ?_
 refine w_range (σ := Option Int) (fun pre g => g = none ∧ pre.find? (fun i => du v.res am (atR v.rg i).1) = none) (fun c pre g => c = .ret ∧ g = pre.find? (fun i => du v.res am (atR v.rg i).1) ∧ g.isSome = true) (fun g => [Ch.row b5 [.string (ba (aY n))] 26, Ch.row b4 [.int .i64 0] 40, Ch.row b3 (dC (adO v g)) 29, Ch.row b2 [.string (ba n)] 26, Ch.row b1 [.pointer (some ⟨v.b, 0, none⟩)] 68, Ch.mp v.rh cX c5 (hmO v hm n g), Ch.mp v.ra gE cX (amO v am n g)]) (none) rfl rfl ent_164 (fU n (bk v.rg) p7 q7 hn (by omega) (by omega)) (List.forall_mem_cons.2 ⟨.head _, List.forall_mem_cons.2 ⟨.tail _ (.head _), nofun⟩⟩) rfl (fun _ => rfl) (⟨rfl, rfl⟩) rfl (fun pre e post g hxs hI lr D r hr okb wb => ?_) (fun g D0 hI => ?_) (fun c pre post g D0 hxs hI => ?_)
 obtain ⟨rfl, hpf⟩ := hI
 have her := fK (n := n) (slots := bk v.rg) (e := e) (by rw [hxs]; simp)
 refine ab ?_
 refine ap (ai rfl) rfl rfl ?_
 refine ae ?_
 refine gH rfl hr .z ?_
 refine aT ?_
 refine ao ?_
 refine ab ?_
 refine ap (aM 6 ep rfl rfl rfl) rfl rfl ?_
 refine ap (bb rfl) rfl rfl ?_
 refine ap (aD fy rfl) rfl rfl ?_
 refine ap (aD dZ rfl) rfl rfl ?_
 refine ap (dn 2 bR rfl rfl rfl rfl) rfl rfl ?_
 refine ap (ak rfl) rfl rfl ?_
 refine bu rfl ent_98 rfl (c_rAt v.rg e hv.rg (by omega)) (fun w hw => bf) ?_
 refine ap (ak rfl) rfl rfl ?_
 refine ap (aJ rfl rfl) rfl rfl ?_
 refine ap (aJ rfl rfl) rfl rfl ?_
 refine bj aO rfl rfl (fun b9 => ?_)
 refine aS aO rfl rfl rfl .z rfl rfl rfl rfl ?_
 refine ap (ai rfl) rfl rfl ?_
 refine ae ?_
 refine aj ?_
 refine ao ?_
 refine ab ?_
 refine ap (aM 7 ep rfl rfl rfl) rfl rfl ?_
 refine ap (aI 0 aO rfl rfl rfl rfl) rfl rfl ?_
 refine bu rfl ent_99 rfl (c_vfree v am (atR v.rg e).1 hv (atR_lo _ _)) (fun w hw => (aW (c8 2 rfl hw) (aW (c8 3 rfl hw) (aW (rd_L 9 rfl hw) bf)))) ?_
 refine bl (t := 60) rfl (fun h14_2 => ?_) (fun h14_2 => ?_)
 refine ae ?_
 refine aj ?_
 refine ay rfl ?_
 refine ao ?_
 refine w_drawVA 20 mixed (fun w h => ((h.anymp (.s (.s (.s (.s (.s (.s (.s (.s (.z)))))))))).anymp (.s (.s (.s (.s (.s (.s (.s (.s (.s (.z)))))))))))) ?_
 refine bd (i := 0) rfl ah (aM 7 ep rfl rfl rfl) (fun w h => ((h.anymp (.s (.s (.s (.s (.s (.s (.s (.s (.z)))))))))).anymp (.s (.s (.s (.s (.s (.s (.s (.s (.s (.z)))))))))))) au rfl (aa (ar cq)) (by kernel_rfl) rfl ?_
 refine bd (i := 1) rfl ah (bb rfl) (fun w h => ((h.anymp (.s (.s (.s (.s (.s (.s (.s (.s (.z)))))))))).anymp (.s (.s (.s (.s (.s (.s (.s (.s (.s (.z)))))))))))) au rfl (aa (ar cq)) (by kernel_rfl) rfl ?_
 refine bd (i := 2) rfl ah (aD dA rfl) (fun w h => ((h.anymp (.s (.s (.s (.s (.s (.s (.s (.s (.z)))))))))).anymp (.s (.s (.s (.s (.s (.s (.s (.s (.s (.z)))))))))))) au rfl (aa (ar cq)) (by kernel_rfl) rfl ?_
 refine bd (i := 3) rfl ah (bL 2 eB rfl rfl rfl) (fun w h => ((h.anymp (.s (.s (.s (.s (.s (.s (.s (.s (.z)))))))))).anymp (.s (.s (.s (.s (.s (.s (.s (.s (.s (.z)))))))))))) au rfl (aa (ar cq)) (by kernel_rfl) rfl ?_
 refine bd (i := 4) rfl ah (aM 3 cW rfl rfl rfl) (fun w h => ((h.anymp (.s (.s (.s (.s (.s (.s (.s (.s (.z)))))))))).anymp (.s (.s (.s (.s (.s (.s (.s (.s (.s (.z)))))))))))) au rfl (aa (ar cq)) (by kernel_rfl) rfl ?_
 refine bd (i := 5) rfl ah (aM 7 ep rfl rfl rfl) (fun w h => ((h.anymp (.s (.s (.s (.s (.s (.s (.s (.s (.z)))))))))).anymp (.s (.s (.s (.s (.s (.s (.s (.s (.s (.z)))))))))))) au rfl (aa (ar cq)) (by kernel_rfl) rfl ?_
 refine bd (i := 6) rfl ah (bb rfl) (fun w h => ((h.anymp (.s (.s (.s (.s (.s (.s (.s (.s (.z)))))))))).anymp (.s (.s (.s (.s (.s (.s (.s (.s (.s (.z)))))))))))) au rfl (aa (ar cq)) (by kernel_rfl) rfl ?_
 refine bd (i := 7) rfl ah (aD gO rfl) (fun w h => ((h.anymp (.s (.s (.s (.s (.s (.s (.s (.s (.z)))))))))).anymp (.s (.s (.s (.s (.s (.s (.s (.s (.s (.z)))))))))))) au rfl (aa (ar cq)) (by kernel_rfl) rfl ?_
 refine bd (i := 8) rfl ah (bL 2 ty_144 rfl rfl rfl) (fun w h => ((h.anymp (.s (.s (.s (.s (.s (.s (.s (.s (.z)))))))))).anymp (.s (.s (.s (.s (.s (.s (.s (.s (.s (.z)))))))))))) au rfl (aa (ar cq)) (by kernel_rfl) rfl ?_
 refine bd (i := 9) rfl ah (aI 0 aO rfl rfl rfl rfl) (fun w h => ((h.anymp (.s (.s (.s (.s (.s (.s (.s (.s (.z)))))))))).anymp (.s (.s (.s (.s (.s (.s (.s (.s (.s (.z)))))))))))) au rfl (aa (ar cq)) (by kernel_rfl) rfl ?_
 refine bd (i := 10) rfl ah (aM 6 cW rfl rfl rfl) (fun w h => ((h.anymp (.s (.s (.s (.s (.s (.s (.s (.s (.z)))))))))).anymp (.s (.s (.s (.s (.s (.s (.s (.s (.s (.z)))))))))))) au rfl (aa (ar cq)) (by kernel_rfl) rfl ?_
 refine bd (i := 11) rfl ah (aI 0 aO rfl rfl rfl rfl) (fun w h => ((h.anymp (.s (.s (.s (.s (.s (.s (.s (.s (.z)))))))))).anymp (.s (.s (.s (.s (.s (.s (.s (.s (.s (.z)))))))))))) au rfl (aa (ar cq)) (by kernel_rfl) rfl ?_
 refine bd (i := 12) rfl ah (bN rfl (bu_46_0_1 _ _ _ _)) (fun w h => ((h.anymp (.s (.s (.s (.s (.s (.s (.s (.s (.z)))))))))).anymp (.s (.s (.s (.s (.s (.s (.s (.s (.s (.z)))))))))))) au rfl (aa (ar cq)) (by kernel_rfl) rfl ?_
 refine bd (i := 13) rfl ah (aM 3 cW rfl rfl rfl) (fun w h => ((h.anymp (.s (.s (.s (.s (.s (.s (.s (.s (.z)))))))))).anymp (.s (.s (.s (.s (.s (.s (.s (.s (.s (.z)))))))))))) au rfl (aa (ar cq)) (by kernel_rfl) rfl ?_
 refine dz (i := 14) rfl (by kernel_rfl) rfl ?_
 refine gB (encK := cX) (encV := c5) Tryz.underlying143 (c7 Tryz.underlying26) bS rfl rfl (e5 h6_8) (fun st => (.s (.s (.s (.s (.s (.s (.s (.s (.z)))))))))) rfl (fun st9 => ?_)
 refine ae ?_
 refine cz (fun w h => ((h.anymq (v0 := d2) rfl (.s (.s (.s (.s (.s (.s (.s (.s (.z)))))))))).anymp (.s (.s (.s (.s (.s (.s (.s (.s (.s (.z)))))))))))) ?_
 refine bd (i := 15) rfl ah (aJ rfl rfl) (fun w h => ((h.anymq (v0 := d2) rfl (.s (.s (.s (.s (.s (.s (.s (.s (.z)))))))))).anymp (.s (.s (.s (.s (.s (.s (.s (.s (.s (.z)))))))))))) au rfl (aa (ar cq)) (by kernel_rfl) rfl ?_
 refine dz (i := 16) rfl (by kernel_rfl) rfl ?_
 refine o_entSt (encK := cX) (encV := c5) (v := (⟨n, (atR v.rg e).1⟩ : Hd)) rfl rfl rfl (.s (.s (.s (.s (.s (.s (.s (.s (.z))))))))) ?_
 refine ae ?_
 refine cz (fun w h => ((h.anymp (.s (.s (.s (.s (.s (.s (.s (.s (.z)))))))))).anymp (.s (.s (.s (.s (.s (.s (.s (.s (.s (.z)))))))))))) ?_
 refine dz (i := 17) rfl (by kernel_rfl) rfl ?_
 refine gB (encK := gE) (encV := cX) Tryz.underlying144 keyl_ad cW rfl rfl (gl h14_2) (fun st => (.s (.s (.s (.s (.s (.s (.s (.s (.s (.z))))))))))) rfl (fun st10 => ?_)
 refine ae ?_
 refine cz (fun w h => ((h.anymp (.s (.s (.s (.s (.s (.s (.s (.s (.z)))))))))).anymq (v0 := ([] : aX)) rfl (.s (.s (.s (.s (.s (.s (.s (.s (.s (.z)))))))))))) ?_
 refine bd (i := 18) rfl ah (aJ rfl rfl) (fun w h => ((h.anymp (.s (.s (.s (.s (.s (.s (.s (.s (.z)))))))))).anymq (v0 := ([] : aX)) rfl (.s (.s (.s (.s (.s (.s (.s (.s (.s (.z)))))))))))) au rfl (aa (ar cq)) (by kernel_rfl) rfl ?_
 refine dz (i := 19) rfl (by kernel_rfl) rfl ?_
 refine o_entSt (encK := gE) (encV := cX) (v := (aY n)) rfl rfl rfl (.s (.s (.s (.s (.s (.s (.s (.s (.s (.z)))))))))) ?_
 refine ae ?_
 refine cz (fun w h => ((h.anymp (.s (.s (.s (.s (.s (.s (.s (.s (.z)))))))))).anymp (.s (.s (.s (.s (.s (.s (.s (.s (.s (.z)))))))))))) ?_
 refine fo (by kernel_rfl) ?_
 refine aj ?_
 refine ao ?_
 refine ab ?_
 refine ap (aI 0 aO rfl rfl rfl rfl) rfl rfl ?_
 refine aS aO rfl rfl rfl (.s (.s (.s (.s (.s (.z)))))) rfl rfl rfl rfl ?_
 refine aS dw rfl rfl rfl (.s (.s (.s (.s (.z))))) rfl rfl rfl rfl ?_
 refine ae ?_
 refine aj ?_
 refine aH ?_
 refine aU ?_
 refine e_rret ((some e)) ?_ (bP 1)
 exact ⟨rfl, by rw [List.find?_append, hpf, List.find?_cons_of_pos (p := (fun i => du v.res am (atR v.rg i).1)) h14_2]; rfl, rfl⟩
 refine ae ?_
 refine aj ?_
 refine aw rfl ?_
 refine aL ?_
 refine bw ?_
 refine e_rend (none) ?_ (bP 1)
 exact ⟨rfl, by rw [List.find?_append, hpf, List.find?_cons_of_neg (by rw [h14_2]; decide)]; rfl⟩
 obtain ⟨rfl, hpf⟩ := hI
 refine bw ?_
 refine aj ?_
 refine ao ?_
 refine ab ?_
 refine ap (bN rfl (eJ)) rfl rfl ?_
 refine aS aO rfl rfl rfl (.s (.s (.s (.z)))) rfl rfl rfl rfl ?_
 refine aS dw rfl rfl rfl (.s (.s (.z))) rfl rfl rfl rfl ?_
 refine ae ?_
 refine aj ?_
 refine aH ?_
 refine fe ?_
 refine eQ .z ?_
 refine dT (rs := [.cell 4 29, .cell 5 40]) rfl (bq 3 aO rfl rfl rfl rfl (d1 2 dw rfl rfl rfl bM)) (fun w hw => ?_)
 obtain ⟨h1, h2, h3⟩ := (hw.weak (.cons _ (.cons _ (.cons _ (.cons _ (.cons _ (.cons _ (.cons_cons _ (.cons_cons _ .slnil)))))))) (fun s hs => hs)).f1.f1.two.uc
 focus first
   | (have hE := c9 (v := v) (hm := hm) (am := am) h3_1
      rw [hE]
      exact ⟨(), rfl, h1, h2, h3⟩)
   | (have hE := cO (v := v) (am := am) h3_1 h6_8
      rw [hE]
      exact ⟨(), rfl, h1, h2, h3⟩)
   | (have hE := cv (am := am) h3_1 h6_8 h9_2
      rw [hE]
      exact ⟨(), rfl, h1, h2, h3⟩)
   | (have hE := bV (am := am) h3_1 h6_8 h9_2 (show bB v am n = none from hpf)
      rw [hE]
      exact ⟨(), rfl, h1, h2, h3⟩)
   | (have hq : bB v am n = g := by
        rw [bB, hxs, List.find?_append, ← hq9]
        cases g with
        | none => cases hqs
        | some y => rfl
      have hE := bV (am := am) h3_1 h6_8 h9_2 hq
      rw [hqs, if_pos rfl] at hE
      rw [hE]
      exact ⟨(), rfl, h1, h2, h3⟩)
   | (trace_state; fail)
 obtain ⟨rfl, hq9, hqs⟩ := hI
 refine aH ?_
 refine aU ?_
 refine az ?_
 refine fe ?_
 refine eQ .z ?_
 refine dT (rs := [.cell 4 29, .cell 5 40]) rfl (bq 3 aO rfl rfl rfl rfl (d1 2 dw rfl rfl rfl bM)) (fun w hw => ?_)
 obtain ⟨h1, h2, h3⟩ := (hw.weak (.cons _ (.cons _ (.cons _ (.cons _ (.cons _ (.cons _ (.cons_cons _ (.cons_cons _ .slnil)))))))) (fun s hs => hs)).f1.f1.two.uc
 focus first
   | (have hE := c9 (v := v) (hm := hm) (am := am) h3_1
      rw [hE]
      exact ⟨(), rfl, h1, h2, h3⟩)
   | (have hE := cO (v := v) (am := am) h3_1 h6_8
      rw [hE]
      exact ⟨(), rfl, h1, h2, h3⟩)
   | (have hE := cv (am := am) h3_1 h6_8 h9_2
      rw [hE]
      exact ⟨(), rfl, h1, h2, h3⟩)
   | (have hE := bV (am := am) h3_1 h6_8 h9_2 (show bB v am n = none from hpf)
      rw [hE]
      exact ⟨(), rfl, h1, h2, h3⟩)
   | (have hq : bB v am n = g := by
        rw [bB, hxs, List.find?_append, ← hq9]
        cases g with
        | none => cases hqs
        | some y => rfl
      have hE := bV (am := am) h3_1 h6_8 h9_2 hq
      rw [hqs, if_pos rfl] at hE
      rw [hE]
      exact ⟨(), rfl, h1, h2, h3⟩)
   | (trace_state; fail)
 refine wrv_cons (i := 9) rfl rfl ?_ ?_
 refine bj bS rfl rfl (fun b12 => ?_)
 refine ae ?_
 refine cz (bP 1) ?_
 refine dz (i := 5) rfl (by kernel_rfl) rfl ?_
 refine ap (dF Tryz.underlying143 (c7 Tryz.underlying26) bS rfl rfl (fun w hw => hw.own _ (List.mem_of_getElem? (i := 6) rfl))) rfl rfl ?_
 refine ae ?_
 refine cz (bP 1) ?_
 refine wv_as (t := 29) (.tuple #[.agg (hdC ((cK hm (aY n)).getD d2)).toArray, .bool (cK hm (aY n)).isSome]) rfl eM ?_
 refine bd (i := 6) rfl ah (ak rfl) (bP 1) au rfl (aa (aa aq)) (by kernel_rfl) rfl ?_
 refine bd (i := 7) rfl ah (aJ rfl rfl) (bP 1) au rfl (aa (aa aq)) (by kernel_rfl) rfl ?_
 refine bd (i := 8) rfl ah (aJ rfl rfl) (bP 1) au rfl (aa (aa aq)) (by kernel_rfl) rfl ?_
 refine wv_splitb (t := 31) rfl (fun h6_8 => ?_) (fun h6_8 => ?_)
 refine dz (i := 10) rfl (by kernel_rfl) rfl ?_
 refine aS bS rfl rfl rfl .z rfl rfl rfl rfl ?_
 refine ae ?_
 refine cz (bP 1) ?_
 refine bd (i := 11) rfl ah (ai rfl) (bP 1) au rfl (aa (aa aq)) (by kernel_rfl) rfl ?_
 refine fo (by kernel_rfl) ?_
 refine aj ?_
 refine ao ?_
 refine ab ?_
 refine ap (ak rfl) rfl rfl ?_
 refine ae ?_
 refine aj ?_
 refine ay rfl ?_
 refine ao ?_
 refine ab ?_
 refine ap (aD dy rfl) rfl rfl ?_
 refine ap (aI 0 aO rfl rfl rfl rfl) rfl rfl ?_
 refine aS aO rfl rfl rfl (.s (.s (.s (.z)))) rfl rfl rfl rfl ?_
 refine aS dw rfl rfl rfl (.s (.s (.z))) rfl rfl rfl rfl ?_
 refine ae ?_
 refine aj ?_
 refine aH ?_
 refine az ?_
 refine fe ?_
 refine dT (rs := [.cell 4 29, .cell 5 40]) rfl (bq 3 aO rfl rfl rfl rfl (d1 2 dw rfl rfl rfl bM)) (fun w hw => ?_)
 obtain ⟨h1, h2, h3⟩ := (hw.weak (.cons _ (.cons _ (.cons _ (.cons _ (.cons _ (.cons _ (.cons_cons _ (.cons_cons _ .slnil)))))))) (fun s hs => hs)).f1.f1.two.uc
 focus first
   | (have hE := c9 (v := v) (hm := hm) (am := am) h3_1
      rw [hE]
      exact ⟨(), rfl, h1, h2, h3⟩)
   | (have hE := cO (v := v) (am := am) h3_1 h6_8
      rw [hE]
      exact ⟨(), rfl, h1, h2, h3⟩)
   | (have hE := cv (am := am) h3_1 h6_8 h9_2
      rw [hE]
      exact ⟨(), rfl, h1, h2, h3⟩)
   | (have hE := bV (am := am) h3_1 h6_8 h9_2 (show bB v am n = none from hpf)
      rw [hE]
      exact ⟨(), rfl, h1, h2, h3⟩)
   | (have hq : bB v am n = g := by
        rw [bB, hxs, List.find?_append, ← hq9]
        cases g with
        | none => cases hqs
        | some y => rfl
      have hE := bV (am := am) h3_1 h6_8 h9_2 hq
      rw [hqs, if_pos rfl] at hE
      rw [hE]
      exact ⟨(), rfl, h1, h2, h3⟩)
   | (trace_state; fail)
 refine dz (i := 10) rfl (by kernel_rfl) rfl ?_
 refine aS bS rfl rfl rfl .z rfl rfl rfl rfl ?_
 refine ae ?_
 refine cz (bP 1) ?_
 refine bd (i := 11) rfl ah (ai rfl) (bP 1) au rfl (aa (aa aq)) (by kernel_rfl) rfl ?_
 refine fo (by kernel_rfl) ?_
 refine aj ?_
 refine ao ?_
 refine ab ?_
 refine ap (ak rfl) rfl rfl ?_
 refine ae ?_
 refine aj ?_
 refine aw rfl ?_
 refine aL ?_
 refine aj ?_
 refine ao ?_
 refine ao ?_
 refine ab ?_
 refine ap (aM 5 ep rfl rfl rfl) rfl rfl ?_
 refine bu rfl ent_35 rfl (c_vFree v hm hv hml) (fun w hw => (aW (c8 0 rfl hw) (aW (rd_L 6 rfl hw) bf))) ?_
 refine ap (dl rfl rfl) rfl rfl ?_
 refine aG (t := 37) rfl (fun h9_2 => ?_) (fun h9_2 => ?_)
 refine ae ?_
 refine aj ?_
 refine ay rfl ?_
 refine ao ?_
 refine ab ?_
 refine ap (bN rfl (eJ)) rfl rfl ?_
 refine aS aO rfl rfl rfl (.s (.s (.s (.z)))) rfl rfl rfl rfl ?_
 refine aS dw rfl rfl rfl (.s (.s (.z))) rfl rfl rfl rfl ?_
 refine ae ?_
 refine aj ?_
 refine aH ?_
 refine az ?_
 refine fe ?_
 refine dT (rs := [.cell 4 29, .cell 5 40]) rfl (bq 3 aO rfl rfl rfl rfl (d1 2 dw rfl rfl rfl bM)) (fun w hw => ?_)
 obtain ⟨h1, h2, h3⟩ := (hw.weak (.cons _ (.cons _ (.cons _ (.cons _ (.cons _ (.cons _ (.cons_cons _ (.cons_cons _ .slnil)))))))) (fun s hs => hs)).f1.f1.two.uc
 focus first
   | (have hE := c9 (v := v) (hm := hm) (am := am) h3_1
      rw [hE]
      exact ⟨(), rfl, h1, h2, h3⟩)
   | (have hE := cO (v := v) (am := am) h3_1 h6_8
      rw [hE]
      exact ⟨(), rfl, h1, h2, h3⟩)
   | (have hE := cv (am := am) h3_1 h6_8 h9_2
      rw [hE]
      exact ⟨(), rfl, h1, h2, h3⟩)
   | (have hE := bV (am := am) h3_1 h6_8 h9_2 (show bB v am n = none from hpf)
      rw [hE]
      exact ⟨(), rfl, h1, h2, h3⟩)
   | (have hq : bB v am n = g := by
        rw [bB, hxs, List.find?_append, ← hq9]
        cases g with
        | none => cases hqs
        | some y => rfl
      have hE := bV (am := am) h3_1 h6_8 h9_2 hq
      rw [hqs, if_pos rfl] at hE
      rw [hE]
      exact ⟨(), rfl, h1, h2, h3⟩)
   | (trace_state; fail)
 refine ae ?_
 refine aj ?_
 refine aw rfl ?_
 refine aL ?_
 refine aj ?_
 refine ao ?_
 refine ao ?_
 have hsl := dB v.rg
 refine w_drawV 8 mixed ?_
 refine bd (i := 0) rfl ah (aM 4 cW rfl rfl rfl) au au rfl (aa (aa aq)) (by kernel_rfl) rfl ?_
 refine bd (i := 1) rfl ah (aM 5 ep rfl rfl rfl) au au rfl (aa (aa aq)) (by kernel_rfl) rfl ?_
 refine bd (i := 2) rfl ah (bb rfl) au au rfl (aa (aa aq)) (by kernel_rfl) rfl ?_
 refine bd (i := 3) rfl ah (aD fy rfl) au au rfl (aa (aa aq)) (by kernel_rfl) rfl ?_
 refine bd (i := 4) rfl ah (aD dZ rfl) au au rfl (aa (aa aq)) (by kernel_rfl) rfl ?_
 refine bd (i := 5) rfl ah (dn 0 bR rfl rfl rfl rfl) au au rfl (aa (aa aq)) (by kernel_rfl) rfl ?_
 refine dz (i := 6) rfl (by kernel_rfl) rfl ?_
 refine aR rfl ent_97 (c_rSize v.rg hv.rg.lo.1) rfl ?_
 refine ae ?_
 refine cz au ?_
 refine dz (i := 7) rfl (by kernel_rfl) rfl ?_
 refine o_callr2 rfl ent_96 rfl (gQ n (bk v.rg)) (fun w hw => bf) (fun ⟨p12, q12⟩ => ?_)
 refine ae ?_
 refine cz (bP 2) ?_
 refine wv_heap (fun w h => h.freeze.freeze) ?_
 refine fo (by kernel_rfl) ?_
 refine aj ?_
 refine aT ?_
 refine eX (fun w h => h.weak (.cons _ (.cons_cons _ (.cons_cons _ (.cons_cons _ (.cons_cons _ (.cons_cons _ (.cons_cons _ (.cons_cons _ .slnil)))))))) (fun s hs => hs)) ?_
 refine w_range (σ := Option Int) (fun pre g => g = none ∧ pre.find? (fun i => du v.res am (atR v.rg i).1) = none) (fun c pre g => c = .ret ∧ g = pre.find? (fun i => du v.res am (atR v.rg i).1) ∧ g.isSome = true) (fun g => [Ch.row b5 [.string (ba (aY n))] 26, Ch.row b4 [.int .i64 0] 40, Ch.row b3 (dC (adO v g)) 29, Ch.row b2 [.string (ba n)] 26, Ch.row b1 [.pointer (some ⟨v.b, 0, none⟩)] 68, Ch.mp v.rh cX c5 (hmO v hm n g), Ch.mp v.ra gE cX (amO v am n g)]) (none) rfl rfl ent_164 (fU n (bk v.rg) p12 q12 hn (by omega) (by omega)) (List.forall_mem_cons.2 ⟨.head _, List.forall_mem_cons.2 ⟨.tail _ (.head _), nofun⟩⟩) rfl (fun _ => rfl) (⟨rfl, rfl⟩) rfl (fun pre e post g hxs hI lr D r hr okb wb => ?_) (fun g D0 hI => ?_) (fun c pre post g D0 hxs hI => ?_)
 obtain ⟨rfl, hpf⟩ := hI
 have her := fK (n := n) (slots := bk v.rg) (e := e) (by rw [hxs]; simp)
 refine ab ?_
 refine ap (ai rfl) rfl rfl ?_
 refine ae ?_
 refine gH rfl hr .z ?_
 refine aT ?_
 refine ao ?_
 refine ab ?_
 refine ap (aM 6 ep rfl rfl rfl) rfl rfl ?_
 refine ap (bb rfl) rfl rfl ?_
 refine ap (aD fy rfl) rfl rfl ?_
 refine ap (aD dZ rfl) rfl rfl ?_
 refine ap (dn 2 bR rfl rfl rfl rfl) rfl rfl ?_
 refine ap (ak rfl) rfl rfl ?_
 refine bu rfl ent_98 rfl (c_rAt v.rg e hv.rg (by omega)) (fun w hw => bf) ?_
 refine ap (ak rfl) rfl rfl ?_
 refine ap (aJ rfl rfl) rfl rfl ?_
 refine ap (aJ rfl rfl) rfl rfl ?_
 refine bj aO rfl rfl (fun b14 => ?_)
 refine aS aO rfl rfl rfl .z rfl rfl rfl rfl ?_
 refine ap (ai rfl) rfl rfl ?_
 refine ae ?_
 refine aj ?_
 refine ao ?_
 refine ab ?_
 refine ap (aM 7 ep rfl rfl rfl) rfl rfl ?_
 refine ap (aI 0 aO rfl rfl rfl rfl) rfl rfl ?_
 refine bu rfl ent_99 rfl (c_vfree v am (atR v.rg e).1 hv (atR_lo _ _)) (fun w hw => (aW (c8 2 rfl hw) (aW (c8 3 rfl hw) (aW (rd_L 9 rfl hw) bf)))) ?_
 refine bl (t := 60) rfl (fun h14_2 => ?_) (fun h14_2 => ?_)
 refine ae ?_
 refine aj ?_
 refine ay rfl ?_
 refine ao ?_
 refine w_drawVA 20 mixed (fun w h => ((h.anymp (.s (.s (.s (.s (.s (.s (.s (.s (.z)))))))))).anymp (.s (.s (.s (.s (.s (.s (.s (.s (.s (.z)))))))))))) ?_
 refine bd (i := 0) rfl ah (aM 7 ep rfl rfl rfl) (fun w h => ((h.anymp (.s (.s (.s (.s (.s (.s (.s (.s (.z)))))))))).anymp (.s (.s (.s (.s (.s (.s (.s (.s (.s (.z)))))))))))) au rfl (aa (ar cq)) (by kernel_rfl) rfl ?_
 refine bd (i := 1) rfl ah (bb rfl) (fun w h => ((h.anymp (.s (.s (.s (.s (.s (.s (.s (.s (.z)))))))))).anymp (.s (.s (.s (.s (.s (.s (.s (.s (.s (.z)))))))))))) au rfl (aa (ar cq)) (by kernel_rfl) rfl ?_
 refine bd (i := 2) rfl ah (aD dA rfl) (fun w h => ((h.anymp (.s (.s (.s (.s (.s (.s (.s (.s (.z)))))))))).anymp (.s (.s (.s (.s (.s (.s (.s (.s (.s (.z)))))))))))) au rfl (aa (ar cq)) (by kernel_rfl) rfl ?_
 refine bd (i := 3) rfl ah (bL 2 eB rfl rfl rfl) (fun w h => ((h.anymp (.s (.s (.s (.s (.s (.s (.s (.s (.z)))))))))).anymp (.s (.s (.s (.s (.s (.s (.s (.s (.s (.z)))))))))))) au rfl (aa (ar cq)) (by kernel_rfl) rfl ?_
 refine bd (i := 4) rfl ah (aM 3 cW rfl rfl rfl) (fun w h => ((h.anymp (.s (.s (.s (.s (.s (.s (.s (.s (.z)))))))))).anymp (.s (.s (.s (.s (.s (.s (.s (.s (.s (.z)))))))))))) au rfl (aa (ar cq)) (by kernel_rfl) rfl ?_
 refine bd (i := 5) rfl ah (aM 7 ep rfl rfl rfl) (fun w h => ((h.anymp (.s (.s (.s (.s (.s (.s (.s (.s (.z)))))))))).anymp (.s (.s (.s (.s (.s (.s (.s (.s (.s (.z)))))))))))) au rfl (aa (ar cq)) (by kernel_rfl) rfl ?_
 refine bd (i := 6) rfl ah (bb rfl) (fun w h => ((h.anymp (.s (.s (.s (.s (.s (.s (.s (.s (.z)))))))))).anymp (.s (.s (.s (.s (.s (.s (.s (.s (.s (.z)))))))))))) au rfl (aa (ar cq)) (by kernel_rfl) rfl ?_
 refine bd (i := 7) rfl ah (aD gO rfl) (fun w h => ((h.anymp (.s (.s (.s (.s (.s (.s (.s (.s (.z)))))))))).anymp (.s (.s (.s (.s (.s (.s (.s (.s (.s (.z)))))))))))) au rfl (aa (ar cq)) (by kernel_rfl) rfl ?_
 refine bd (i := 8) rfl ah (bL 2 ty_144 rfl rfl rfl) (fun w h => ((h.anymp (.s (.s (.s (.s (.s (.s (.s (.s (.z)))))))))).anymp (.s (.s (.s (.s (.s (.s (.s (.s (.s (.z)))))))))))) au rfl (aa (ar cq)) (by kernel_rfl) rfl ?_
 refine bd (i := 9) rfl ah (aI 0 aO rfl rfl rfl rfl) (fun w h => ((h.anymp (.s (.s (.s (.s (.s (.s (.s (.s (.z)))))))))).anymp (.s (.s (.s (.s (.s (.s (.s (.s (.s (.z)))))))))))) au rfl (aa (ar cq)) (by kernel_rfl) rfl ?_
 refine bd (i := 10) rfl ah (aM 6 cW rfl rfl rfl) (fun w h => ((h.anymp (.s (.s (.s (.s (.s (.s (.s (.s (.z)))))))))).anymp (.s (.s (.s (.s (.s (.s (.s (.s (.s (.z)))))))))))) au rfl (aa (ar cq)) (by kernel_rfl) rfl ?_
 refine bd (i := 11) rfl ah (aI 0 aO rfl rfl rfl rfl) (fun w h => ((h.anymp (.s (.s (.s (.s (.s (.s (.s (.s (.z)))))))))).anymp (.s (.s (.s (.s (.s (.s (.s (.s (.s (.z)))))))))))) au rfl (aa (ar cq)) (by kernel_rfl) rfl ?_
 refine bd (i := 12) rfl ah (bN rfl (bu_46_0_1 _ _ _ _)) (fun w h => ((h.anymp (.s (.s (.s (.s (.s (.s (.s (.s (.z)))))))))).anymp (.s (.s (.s (.s (.s (.s (.s (.s (.s (.z)))))))))))) au rfl (aa (ar cq)) (by kernel_rfl) rfl ?_
 refine bd (i := 13) rfl ah (aM 3 cW rfl rfl rfl) (fun w h => ((h.anymp (.s (.s (.s (.s (.s (.s (.s (.s (.z)))))))))).anymp (.s (.s (.s (.s (.s (.s (.s (.s (.s (.z)))))))))))) au rfl (aa (ar cq)) (by kernel_rfl) rfl ?_
 refine dz (i := 14) rfl (by kernel_rfl) rfl ?_
 refine gB (encK := cX) (encV := c5) Tryz.underlying143 (c7 Tryz.underlying26) bS rfl rfl (e5 h6_8) (fun st => (.s (.s (.s (.s (.s (.s (.s (.s (.z)))))))))) rfl (fun st14 => ?_)
 refine ae ?_
 refine cz (fun w h => ((h.anymq (v0 := d2) rfl (.s (.s (.s (.s (.s (.s (.s (.s (.z)))))))))).anymp (.s (.s (.s (.s (.s (.s (.s (.s (.s (.z)))))))))))) ?_
 refine bd (i := 15) rfl ah (aJ rfl rfl) (fun w h => ((h.anymq (v0 := d2) rfl (.s (.s (.s (.s (.s (.s (.s (.s (.z)))))))))).anymp (.s (.s (.s (.s (.s (.s (.s (.s (.s (.z)))))))))))) au rfl (aa (ar cq)) (by kernel_rfl) rfl ?_
 refine dz (i := 16) rfl (by kernel_rfl) rfl ?_
 refine o_entSt (encK := cX) (encV := c5) (v := (⟨n, (atR v.rg e).1⟩ : Hd)) rfl rfl rfl (.s (.s (.s (.s (.s (.s (.s (.s (.z))))))))) ?_
 refine ae ?_
 refine cz (fun w h => ((h.anymp (.s (.s (.s (.s (.s (.s (.s (.s (.z)))))))))).anymp (.s (.s (.s (.s (.s (.s (.s (.s (.s (.z)))))))))))) ?_
 refine dz (i := 17) rfl (by kernel_rfl) rfl ?_
 refine gB (encK := gE) (encV := cX) Tryz.underlying144 keyl_ad cW rfl rfl (gl h14_2) (fun st => (.s (.s (.s (.s (.s (.s (.s (.s (.s (.z))))))))))) rfl (fun st15 => ?_)
 refine ae ?_
 refine cz (fun w h => ((h.anymp (.s (.s (.s (.s (.s (.s (.s (.s (.z)))))))))).anymq (v0 := ([] : aX)) rfl (.s (.s (.s (.s (.s (.s (.s (.s (.s (.z)))))))))))) ?_
 refine bd (i := 18) rfl ah (aJ rfl rfl) (fun w h => ((h.anymp (.s (.s (.s (.s (.s (.s (.s (.s (.z)))))))))).anymq (v0 := ([] : aX)) rfl (.s (.s (.s (.s (.s (.s (.s (.s (.s (.z)))))))))))) au rfl (aa (ar cq)) (by kernel_rfl) rfl ?_
 refine dz (i := 19) rfl (by kernel_rfl) rfl ?_
 refine o_entSt (encK := gE) (encV := cX) (v := (aY n)) rfl rfl rfl (.s (.s (.s (.s (.s (.s (.s (.s (.s (.z)))))))))) ?_
 refine ae ?_
 refine cz (fun w h => ((h.anymp (.s (.s (.s (.s (.s (.s (.s (.s (.z)))))))))).anymp (.s (.s (.s (.s (.s (.s (.s (.s (.s (.z)))))))))))) ?_
 refine fo (by kernel_rfl) ?_
 refine aj ?_
 refine ao ?_
 refine ab ?_
 refine ap (aI 0 aO rfl rfl rfl rfl) rfl rfl ?_
 refine aS aO rfl rfl rfl (.s (.s (.s (.s (.s (.z)))))) rfl rfl rfl rfl ?_
 refine aS dw rfl rfl rfl (.s (.s (.s (.s (.z))))) rfl rfl rfl rfl ?_
 refine ae ?_
 refine aj ?_
 refine aH ?_
 refine aU ?_
 refine e_rret ((some e)) ?_ (bP 1)
 exact ⟨rfl, by rw [List.find?_append, hpf, List.find?_cons_of_pos (p := (fun i => du v.res am (atR v.rg i).1)) h14_2]; rfl, rfl⟩
 refine ae ?_
 refine aj ?_
 refine aw rfl ?_
 refine aL ?_
 refine bw ?_
 refine e_rend (none) ?_ (bP 1)
 exact ⟨rfl, by rw [List.find?_append, hpf, List.find?_cons_of_neg (by rw [h14_2]; decide)]; rfl⟩
 obtain ⟨rfl, hpf⟩ := hI
 refine bw ?_
 refine aj ?_
 refine ao ?_
 refine ab ?_
 refine ap (bN rfl (eJ)) rfl rfl ?_
 refine aS aO rfl rfl rfl (.s (.s (.s (.z)))) rfl rfl rfl rfl ?_
 refine aS dw rfl rfl rfl (.s (.s (.z))) rfl rfl rfl rfl ?_
 refine ae ?_
 refine aj ?_
 refine aH ?_
 refine fe ?_
 refine eQ .z ?_
 refine dT (rs := [.cell 4 29, .cell 5 40]) rfl (bq 3 aO rfl rfl rfl rfl (d1 2 dw rfl rfl rfl bM)) (fun w hw => ?_)
 obtain ⟨h1, h2, h3⟩ := (hw.weak (.cons _ (.cons _ (.cons _ (.cons _ (.cons _ (.cons _ (.cons_cons _ (.cons_cons _ .slnil)))))))) (fun s hs => hs)).f1.f1.two.uc
 focus first
   | (have hE := c9 (v := v) (hm := hm) (am := am) h3_1
      rw [hE]
      exact ⟨(), rfl, h1, h2, h3⟩)
   | (have hE := cO (v := v) (am := am) h3_1 h6_8
      rw [hE]
      exact ⟨(), rfl, h1, h2, h3⟩)
   | (have hE := cv (am := am) h3_1 h6_8 h9_2
      rw [hE]
      exact ⟨(), rfl, h1, h2, h3⟩)
   | (have hE := bV (am := am) h3_1 h6_8 h9_2 (show bB v am n = none from hpf)
      rw [hE]
      exact ⟨(), rfl, h1, h2, h3⟩)
   | (have hq : bB v am n = g := by
        rw [bB, hxs, List.find?_append, ← hq9]
        cases g with
        | none => cases hqs
        | some y => rfl
      have hE := bV (am := am) h3_1 h6_8 h9_2 hq
      rw [hqs, if_pos rfl] at hE
      rw [hE]
      exact ⟨(), rfl, h1, h2, h3⟩)
   | (trace_state; fail)
 obtain ⟨rfl, hq9, hqs⟩ := hI
 refine aH ?_
 refine aU ?_
 refine az ?_
 refine fe ?_
 refine eQ .z ?_
 refine dT (rs := [.cell 4 29, .cell 5 40]) rfl (bq 3 aO rfl rfl rfl rfl (d1 2 dw rfl rfl rfl bM)) (fun w hw => ?_)
 obtain ⟨h1, h2, h3⟩ := (hw.weak (.cons _ (.cons _ (.cons _ (.cons _ (.cons _ (.cons _ (.cons_cons _ (.cons_cons _ .slnil)))))))) (fun s hs => hs)).f1.f1.two.uc
 focus first
   | (have hE := c9 (v := v) (hm := hm) (am := am) h3_1
      rw [hE]
      exact ⟨(), rfl, h1, h2, h3⟩)
   | (have hE := cO (v := v) (am := am) h3_1 h6_8
      rw [hE]
      exact ⟨(), rfl, h1, h2, h3⟩)
   | (have hE := cv (am := am) h3_1 h6_8 h9_2
      rw [hE]
      exact ⟨(), rfl, h1, h2, h3⟩)
   | (have hE := bV (am := am) h3_1 h6_8 h9_2 (show bB v am n = none from hpf)
      rw [hE]
      exact ⟨(), rfl, h1, h2, h3⟩)
   | (have hq : bB v am n = g := by
        rw [bB, hxs, List.find?_append, ← hq9]
        cases g with
        | none => cases hqs
        | some y => rfl
      have hE := bV (am := am) h3_1 h6_8 h9_2 hq
      rw [hqs, if_pos rfl] at hE
      rw [hE]
      exact ⟨(), rfl, h1, h2, h3⟩)
   | (trace_state; fail)
 exact wrv_nil
 refine ap (bJ rfl) rfl rfl ?_
 refine ap (ai rfl) rfl rfl ?_
 refine ae ?_
 refine aj ?_
 refine ay rfl ?_
 refine ao ?_
 refine ab ?_
 refine ap (bN rfl (eJ)) rfl rfl ?_
 refine aS aO rfl rfl rfl (.s (.z)) rfl rfl rfl rfl ?_
 refine aS dw rfl rfl rfl .z rfl rfl rfl rfl ?_
 refine ae ?_
 refine aj ?_
 refine aH ?_
 refine aU ?_
 refine az ?_
 refine fe ?_
 refine dT (rs := [.cell 4 29, .cell 5 40]) rfl (bq 1 aO rfl rfl rfl rfl (d1 0 dw rfl rfl rfl bM)) (fun w hw => ?_)
 obtain ⟨h1, h2, h3⟩ := (hw.weak (.cons _ (.cons _ (.cons _ (.cons _ (.cons_cons _ (.cons_cons _ .slnil)))))) (fun s hs => hs)).f1.f1.two.uc
 focus first
   | (have hE := c9 (v := v) (hm := hm) (am := am) h3_1
      rw [hE]
      exact ⟨(), rfl, h1, h2, h3⟩)
   | (have hE := cO (v := v) (am := am) h3_1 h6_8
      rw [hE]
      exact ⟨(), rfl, h1, h2, h3⟩)
   | (have hE := cv (am := am) h3_1 h6_8 h9_2
      rw [hE]
      exact ⟨(), rfl, h1, h2, h3⟩)
   | (have hE := bV (am := am) h3_1 h6_8 h9_2 (show bB v am n = none from hpf)
      rw [hE]
      exact ⟨(), rfl, h1, h2, h3⟩)
   | (have hq : bB v am n = g := by
        rw [bB, hxs, List.find?_append, ← hq9]
        cases g with
        | none => cases hqs
        | some y => rfl
      have hE := bV (am := am) h3_1 h6_8 h9_2 hq
      rw [hqs, if_pos rfl] at hE
      rw [hE]
      exact ⟨(), rfl, h1, h2, h3⟩)
   | (trace_state; fail)
end Go.Proofs.YtnpdgmoeoidppaaGreat
