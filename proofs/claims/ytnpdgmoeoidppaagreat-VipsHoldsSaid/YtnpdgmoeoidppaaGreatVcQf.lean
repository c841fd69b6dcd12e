import Derived.Test.YtnpdgmoeoidppaaGreatLzQf
/- vips: a pool -/
namespace Go.Proofs.YtnpdgmoeoidppaaGreat
open Go.RowKit Go.Shelf
set_option linter.unusedVariables false
set_option linter.unusedSimpArgs false

theorem bu_46_0_1 (x0 : aU) (x1 : Bool) (x2 : Int) (x3 : Int) : Tryz.prog.built 46 [(0, .string (ba x0)), (1, .agg [.bool x1, .int .u64 x2, .int .u64 x3].toArray)] = some [.string (ba x0), .bool x1, .int .u64 x2, .int .u64 x3].toArray := by kernel_rfl
theorem ent_104 : Enters Tryz.prog 104 := enters_of Tryz.func104 (by kernel_rfl) rfl
theorem ent_164 : Enters Tryz.prog 164 := enters_of Tryz.func164 (by kernel_rfl) rfl
theorem ent_35 : Enters Tryz.prog 35 := enters_of Tryz.func35 (by kernel_rfl) rfl
theorem ent_95 : Enters Tryz.prog 95 := enters_of Tryz.func95 (by kernel_rfl) rfl
theorem ent_96 : Enters Tryz.prog 96 := enters_of Tryz.func96 (by kernel_rfl) rfl
theorem ent_98 : Enters Tryz.prog 98 := enters_of Tryz.func98 (by kernel_rfl) rfl
theorem ent_99 : Enters Tryz.prog 99 := enters_of Tryz.func99 (by kernel_rfl) rfl
theorem gq : FA Tryz.prog 146 0 0 := fun b o w => by kernel_rfl
theorem dw : FA Tryz.prog 146 1 5 := fun b o w => by kernel_rfl
theorem gg : FA Tryz.prog 146 2 6 := fun b o w => by kernel_rfl
theorem fa_146_3 : FA Tryz.prog 146 3 7 := fun b o w => by kernel_rfl
theorem dy : FA Tryz.prog 46 1 1 := fun b o w => by kernel_rfl
theorem eG : FA Tryz.prog 67 0 0 := fun b o w => by kernel_rfl
theorem eD : FA Tryz.prog 67 1 4 := fun b o w => by kernel_rfl
theorem ek : TyI Tryz.prog 143 false 1 8 (.map none) := TyI.mk' (by kernel_rfl) (fun _ => by kernel_rfl)
theorem ty_144 : TyI Tryz.prog 144 false 1 8 (.map none) := TyI.mk' (by kernel_rfl) (fun _ => by kernel_rfl)
theorem eU : TyI Tryz.prog 68 false 1 8 (.pointer none) := TyI.mk' (by kernel_rfl) (fun _ => by kernel_rfl)

abbrev cT : Hd → Value := fun h => .agg (gI h).toArray
/-- A pool that was made: its range, what is reserved, its room, where it lies. -/
structure Vp where
  rg : Rg
  res : List Rg
  A : Option Addr
  c : Nat
  room : Int
  b : Nat
  rh : Nat
  ra : Nat
def plC (r : Rg) (A : Option Addr) (n c : Nat) : List Value := [.bool r.base.six, .int .u64 r.base.hi, .int .u64 r.base.lo, .int .i64 r.bits, .slice A n c]
def vpC (v : Vp) : List Value := [.bool v.rg.base.six, .int .u64 v.rg.base.hi, .int .u64 v.rg.base.lo, .int .i64 v.rg.bits, .slice v.A v.res.length v.c, .map (some v.rh), .map (some v.ra), .int .i64 v.room]
structure VOk (v : Vp) : Prop where
  rg : RgOk v.rg
  res : ∀ x ∈ v.res, RgOk x
  len : v.res.length ≤ 1000000000000
  room : 0 ≤ v.room ∧ v.room ≤ 65536
abbrev Hm := List (aU × Hd)
abbrev Am := List (Ad × aU)
def vmC (v : Vp) (hm : Hm) (am : Am) : Ch := Ch.two (Ch.mp v.rh cB cT hm) (Ch.mp v.ra f8 cB am)
def f5 : List Rg → Int
  | [] => 0
  | r :: t => if cC r ≠ 0 then cC r else f5 t
theorem cksR_drop {l : List Rg} {k : Nat} (hk : k < l.length) (h : f5 l = f5 (l.drop k)) : f5 l = if cC (l.getD k rg0) ≠ 0 then cC (l.getD k rg0) else f5 (l.drop (k + 1)) := by
  rw [h, ec l rg0 k hk, f5]
def bB (n : aU) : Bool := decide (n ≠ []) && decide (bv n = 0)
def d8 (res : List Rg) (am : Am) (a : Ad) : Bool := !(co am a).isSome && dz res a
def adO (v : Vp) (g : Option Int) : Ad := match g with | none => ad0 | some i => (atR v.rg i).1
def hmO (v : Vp) (hm : Hm) (n : aU) (g : Option Int) : Hm := match g with | none => hm | some i => hm ++ [(aX n, ⟨n, (atR v.rg i).1⟩)]
def amO (v : Vp) (am : Am) (n : aU) (g : Option Int) : Am := match g with | none => am | some i => am ++ [((atR v.rg i).1, aX n)]
def bQ (v : Vp) (am : Am) (n : aU) : Option Int := (dM n (bD v.rg)).find? fun i => d8 v.res am (atR v.rg i).1
def bN (v : Vp) (hm : Hm) (am : Am) (n : aU) : (Ad × Int) × Hm × Am :=
  if bB n = false then ((ad0, 2), hm, am) else
  match co hm (aX n) with
  | some h => ((h.ad, 0), hm, am)
  | none => if v.room - hm.length = 0 then ((ad0, 10), hm, am) else
    ((adO v (bQ v am n), if (bQ v am n).isSome = true then 0 else 10), hmO v hm n (bQ v am n), amO v am n (bQ v am n))
theorem dA {v : Vp} {hm : Hm} {am : Am} {n : aU} (h : bB n = false) : bN v hm am n = ((ad0, 2), hm, am) := if_pos h
theorem cX {v : Vp} {hm : Hm} {am : Am} {n : aU} (h : bB n = true) (h2 : (co hm (aX n)).isSome = true) : bN v hm am n = ((((co hm (aX n)).getD cV).ad, 0), hm, am) := by
  rw [bN, if_neg (by rw [h]; decide)]
  cases h3 : co hm (aX n) with
  | none => rw [h3] at h2; cases h2
  | some x => rfl
theorem cK {v : Vp} {hm : Hm} {am : Am} {n : aU} (h : bB n = true) (h2 : (co hm (aX n)).isSome = false) (h4 : v.room - hm.length = 0) : bN v hm am n = ((ad0, 10), hm, am) := by
  rw [bN, if_neg (by rw [h]; decide)]
  cases h3 : co hm (aX n) with
  | some x => rw [h3] at h2; cases h2
  | none => exact if_pos h4
theorem cn {v : Vp} {hm : Hm} {am : Am} {n : aU} (h : bB n = true) (h2 : (co hm (aX n)).isSome = false) (h4 : ¬ v.room - hm.length = 0) {g : Option Int} (hg : bQ v am n = g) : bN v hm am n = ((adO v g, if g.isSome = true then 0 else 10), hmO v hm n g, amO v am n g) := by
  subst hg
  rw [bN, if_neg (by rw [h]; decide)]
  cases h3 : co hm (aX n) with
  | some x => rw [h3] at h2; cases h2
  | none => exact if_neg h4
def iB (hm : Hm) (am : Am) (key : aU) : Hm × Am := (rmv hm key, rmv am ((co hm key).getD cV).ad)
def dY (hm : Hm) (am : Am) (n : aU) : Int × Hm × Am := if bB n = false then (2, hm, am) else if (co hm (aX n)).isSome = false then (5, hm, am) else (0, iB hm am (aX n))
def ofV (hm : Hm) (n : aU) : Ad × Bool := if bB n = false then (ad0, false) else (((co hm (aX n)).getD cV).ad, (co hm (aX n)).isSome)
def eW (hm : Hm) (am : Am) (a : Ad) : aU × Bool := if (co am a).isSome = false then ([], false) else (((co hm ((co am a).getD [])).getD cV).host, true)
theorem fF {o : Option Hd} : Value.tuple [(o.map cT).getD (.agg [.string .empty, .bool false, .int .u64 0, .int .u64 0].toArray), .bool o.isSome].toArray = .tuple #[.agg (gI (o.getD cV)).toArray, .bool o.isSome] := by cases o <;> rfl
theorem look1_hd {o : Option Hd} : (o.map cT).getD (.agg [.string .empty, .bool false, .int .u64 0, .int .u64 0].toArray) = .agg (gI (o.getD cV)).toArray := by cases o <;> rfl
theorem look2_n {o : Option aU} : Value.tuple [(o.map cB).getD (.string .empty), .bool o.isSome].toArray = .tuple #[.string (ba (o.getD [])), .bool o.isSome] := by cases o <;> rfl
theorem look1_b {o : Option Bool} : (o.map (fun b : Bool => Value.bool b)).getD (.bool false) = .bool (o.getD false) := by cases o <;> rfl
theorem fX {α β : Type} [DecidableEq α] {m : List (α × β)} {a : α} (h : (co m a).isSome = false) : co m a = none := by
  cases hh : co m a with
  | none => rfl
  | some x => rw [hh] at h; cases h
theorem gU {res : List Rg} {am : Am} {a : Ad} (h : d8 res am a = true) : co am a = none := fX (by
  simp only [d8, Bool.and_eq_true, Bool.not_eq_true'] at h; exact h.1)

theorem c_vCheck (rg : Rg) (res : List Rg) (A : Option Addr) (c : Nat) (hr : RgOk rg) (hrs : ∀ x ∈ res, RgOk x) (hl : res.length ≤ 1000000000000) : RC Tryz.prog 43 #[.agg (plC rg A res.length c).toArray] [Ch.rd A 4 ea res] (α := Unit) (fun _ => .int .i64 (f5 (rg :: res))) (fun _ => []) := by
 refine bp (args := [.agg (plC rg A res.length c).toArray]) 23 Tryz.func43 rfl rfl rfl (fun w0 => ?_)
 have hall : ∀ x ∈ [rg] ++ res, RgOk x := fun x hx => (List.mem_append.1 hx).elim (fun h => by rw [List.mem_singleton.1 h]; exact hr) (hrs x)
 have hle : ([rg] ++ res).length = res.length + 1 := by simp
 refine ap ?_
 refine ab ?_
 refine bI rfl rfl rfl (fun b1 => ?_)
 refine aq (ai rfl) rfl rfl ?_
 refine ae ?_
 refine ak ?_
 refine ap ?_
 refine ap ?_
 refine ab ?_
 refine aq (aF eG rfl) rfl rfl ?_
 refine aq (aM 0 ck rfl rfl rfl rfl) rfl rfl ?_
 refine gb (vs := [_]) ([rg] : List (Rg)) gn Tryz.underlying65 ck rfl rfl rfl rfl rfl rfl (fun As2 => ?_)
 refine aq (aF eD rfl) rfl rfl ?_
 refine aq (aQ 1 gJ rfl rfl rfl) rfl rfl ?_
 refine fR (enc := ea) (sz := 4) res Tryz.underlying65 ck rfl rfl rfl (fun A c => .z) (src_S 0 Tryz.underlying65 rfl) (by simp only [List.length_cons, List.length_nil]; omega) (by simp only [List.length_cons, List.length_nil]; omega) rfl (fun A2 c2 => ?_)
 refine aq (bK Tryz.underlying65 rfl) rfl rfl ?_
 refine aq (aj rfl) rfl rfl ?_
 refine ae ?_
 refine ak ?_
 refine aR ?_
 refine bY (σ := Nat) [2, 4, 5, 13, 14, 15, 16, 17, 18, 19, 20, 21, 22] (fun k => k ≤ ([rg] ++ res).length ∧ f5 ([rg] ++ res) = f5 (([rg] ++ res).drop k)) (fun k => ([rg] ++ res).length - k) (fun k => [(13, .int .i64 k)]) (0) ?_ ⟨rfl, trivial⟩ (fun k hI => ?_)
 exact ⟨Nat.zero_le _, rfl⟩
 refine ap ?_
 refine ab ?_
 refine aq (bP rfl rfl) rfl rfl ?_
 refine aG (t := 14) rfl (fun h2_0 => ?_) (fun h2_0 => ?_)
 have hk : k < ([rg] ++ res).length := by omega
 have hck := cksR_drop hk hI.2
 have hxk := hall _ (bc (d := rg0) hk)
 refine ae ?_
 refine ak ?_
 refine ap ?_
 refine aA rfl ?_
 refine aH ?_
 refine ak ?_
 refine ap ?_
 refine aR ?_
 refine ap ?_
 refine ab ?_
 refine aq (bq  Tryz.underlying65 ck rfl rfl (cZ 0 rfl) rfl (by omega)) rfl rfl ?_
 refine aq (fN gn rg0 ck rfl (cZ 0 rfl) (by omega) rfl rfl rfl) rfl rfl ?_
 refine br ck rfl rfl (fun b4 => ?_)
 refine aW ck rfl rfl rfl .z rfl rfl rfl rfl ?_
 refine ae ?_
 refine ak ?_
 refine ap ?_
 refine ab ?_
 refine aq (aM 0 ck rfl rfl rfl rfl) rfl rfl ?_
 refine aV rfl ent_110 (c_rCheck (([rg] ++ res).getD k rg0) hxk.lo.1) rfl ?_
 refine aq (ai rfl) rfl rfl ?_
 refine ae ?_
 refine ak ?_
 refine ap ?_
 refine ab ?_
 refine aq (aj rfl) rfl rfl ?_
 refine aq (ct rfl rfl) rfl rfl ?_
 refine aG (t := 20) rfl (fun h5_1 => ?_) (fun h5_1 => ?_)
 refine ae ?_
 refine ak ?_
 refine aA rfl ?_
 refine ap ?_
 refine ab ?_
 refine aq (aj rfl) rfl rfl ?_
 refine aq (ai rfl) rfl rfl ?_
 refine ae ?_
 refine ak ?_
 refine aJ ?_
 refine aT ?_
 refine aC ?_
 refine bw ?_
 refine aT ?_
 refine aC ?_
 refine aN (ts := [2]) rfl rfl rfl (fun w hw => ?_)
 have hE : f5 (rg :: res) = cC (([rg] ++ res).getD k rg0) := hck.trans (if_pos h5_1)
 exact ⟨(), by rw [hE]; rfl, hw.base, (hw.weak (List.nil_sublist _) (fun s hs => hs)).toNews⟩
 refine ae ?_
 refine ak ?_
 refine ay rfl ?_
 refine aH ?_
 refine bo ?_
 refine ak ?_
 refine ab ?_
 refine aq (bd rfl rfl (by omega) (by omega)) rfl rfl ?_
 refine aq (aj rfl) rfl rfl ?_
 refine ae ?_
 refine bj (k + 1) ?_ ?_ ⟨rfl, trivial⟩ (by repeat (first | exact trivial | refine ⟨rfl, ?_⟩)) (cr 1)
 exact ⟨by omega, by rw [hck, if_neg h5_1]⟩
 omega
 refine ae ?_
 refine ak ?_
 refine ap ?_
 refine ay rfl ?_
 refine bE ?_
 refine aZ ?_
 refine aY ?_
 refine a7 ?_
 refine ak ?_
 refine ap ?_
 refine ab ?_
 refine aq (ai rfl) rfl rfl ?_
 refine ae ?_
 refine ak ?_
 refine aJ ?_
 refine aN (ts := [2]) rfl rfl rfl (fun w hw => ?_)
 have hE : f5 (rg :: res) = 0 := by
   have h9 := hI.2
   rw [List.drop_of_length_le (by omega)] at h9; exact h9
 exact ⟨(), by rw [hE]; rfl, hw.base, (hw.weak (List.nil_sublist _) (fun s hs => hs)).toNews⟩

theorem c_Clone_rg (l : List Rg) (A : Option Addr) (c : Nat) (hl : l.length ≤ 1000000000000) : RC Tryz.prog 90 #[.slice A l.length c] [Ch.rd A 4 ea l] (α := Option Addr × Nat) (fun p => .slice p.1 l.length p.2) (fun p => [Ch.ls p.1 p.2 64 4 ea l]) := by
 refine bp (args := [.slice A l.length c]) 8 Tryz.func90 rfl rfl rfl (fun w0 => ?_)
 refine ap ?_
 refine ab ?_
 refine aq (ai rfl) rfl rfl ?_
 refine ae ?_
 refine ak ?_
 refine ap ?_
 refine ap ?_
 refine ab ?_
 refine aq (aj rfl) rfl rfl ?_
 refine aq (y_eqsn Tryz.underlying65 rfl rfl) rfl rfl ?_
 refine bi (t := 4) rfl (fun h1_1 => ?_) (fun h1_1 => ?_)
 refine ae ?_
 refine ak ?_
 refine aA rfl ?_
 refine ap ?_
 refine ab ?_
 refine aq (ai rfl) rfl rfl ?_
 refine ae ?_
 refine ak ?_
 refine aJ ?_
 refine aC ?_
 refine aN (ts := [2]) rfl rfl rfl (fun w hw => ?_)
 have hr : RsP A l.length 4 _ w := hw.sh _ List.mem_cons_self
 have h0 : l = [] := List.length_eq_zero_iff.1 (rs_none hr h1_1)
 subst h0
 exact ⟨(none, 0), rfl, hw.base, (hw.nilsl 64 4).toNews⟩
 refine ae ?_
 refine ak ?_
 refine ay rfl ?_
 refine aH ?_
 refine ak ?_
 refine ap ?_
 refine ab ?_
 refine gb (vs := []) ([] : List (Rg)) gn Tryz.underlying65 ck rfl rfl rfl rfl rfl rfl (fun As1 => ?_)
 refine aq (aj rfl) rfl rfl ?_
 refine fR (enc := ea) (sz := 4) l Tryz.underlying65 ck rfl rfl rfl (fun A c => .z) (src_S 0 Tryz.underlying65 rfl) (by simp only [List.length_cons, List.length_nil, Nat.zero_add]; omega) (by simp only [List.length_cons, List.length_nil, Nat.zero_add]; omega) rfl (fun A1 c1 => ?_)
 refine aq (ai rfl) rfl rfl ?_
 refine ae ?_
 refine ak ?_
 refine aJ ?_
 refine aN (ts := [2]) rfl rfl rfl (fun w hw => ?_)
 exact ⟨(A1, c1), rfl, hw.base, hw.toNews⟩

theorem c_vhost (n : aU) : Pure Tryz.prog 95 #[.string (ba n)] (.bool (bB n)) := by
 intro w0
 refine bb (ok0 := no) (S := []) (args := [.string (ba n)]) 10 Tryz.func95 rfl rfl rfl (by simp) (by simp) ?_
 refine ap ?_
 refine ab ?_
 refine aq (ai rfl) rfl rfl ?_
 refine ae ?_
 refine ak ?_
 refine ap ?_
 refine ab ?_
 refine aq (aj rfl) rfl rfl ?_
 refine aq (y_neqs rfl rfl) rfl rfl ?_
 refine aG (t := 4) rfl (fun h1_1 => ?_) (fun h1_1 => ?_)
 refine aq (aj rfl) rfl rfl ?_
 refine aw rfl rfl ?_
 refine aq (aj rfl) rfl rfl ?_
 refine aw rfl rfl ?_
 refine aV rfl ent_74 (iF _) rfl ?_
 refine aw rfl rfl ?_
 refine aq (fc rfl rfl) rfl rfl ?_
 refine aq (aS rfl rfl) rfl rfl ?_
 refine aq (ai rfl) rfl rfl ?_
 refine ae ?_
 refine ak ?_
 refine aJ ?_
 refine aN (ts := [2]) rfl rfl rfl (fun w hw => ?_)
 refine ⟨?_, hw.base⟩
 show Ending.returned (.bool _) = _
 congr 2
 focus first
   | (rw [bB, decide_eq_true h1_1]; rfl)
   | (rw [bB, decide_eq_false h1_1]; rfl)
   | (trace_state; fail)
 refine aq (aj rfl) rfl rfl ?_
 refine aK rfl rfl rfl rfl ?_
 refine aK rfl rfl rfl rfl ?_
 refine aK rfl rfl rfl rfl ?_
 refine aq (aL rfl rfl) rfl rfl ?_
 refine aq (ai rfl) rfl rfl ?_
 refine ae ?_
 refine ak ?_
 refine aJ ?_
 refine aN (ts := [2]) rfl rfl rfl (fun w hw => ?_)
 refine ⟨?_, hw.base⟩
 show Ending.returned (.bool _) = _
 congr 2
 focus first
   | (rw [bB, decide_eq_true h1_1]; rfl)
   | (rw [bB, decide_eq_false h1_1]; rfl)
   | (trace_state; fail)

set_option maxRecDepth 100000 in
theorem c_vFree (v : Vp) (hm : Hm) (hv : VOk v) (hml : hm.length ≤ 1000000) : RC Tryz.prog 35 #[.pointer (some ⟨v.b, 0, none⟩)] [Ch.row v.b (vpC v) 146, Ch.mp v.rh cB cT hm] (α := Unit) (fun _ => .int .i64 (v.room - hm.length)) (fun _ => []) := by
 refine bp (args := [.pointer (some ⟨v.b, 0, none⟩)]) 15 Tryz.func35 rfl rfl rfl (fun w0 => ?_)
 refine ap ?_
 refine ab ?_
 refine aq (ai rfl) rfl rfl ?_
 refine ae ?_
 refine ak ?_
 refine ap ?_
 refine ap ?_
 refine ab ?_
 refine aq (aj rfl) rfl rfl ?_
 refine aq (gv Tryz.underlying68 rfl rfl) rfl rfl ?_
 refine bZ (t := 4) (.bool false) rfl (congrArg Value.bool rfl) ?_
 refine ae ?_
 refine ak ?_
 refine ay rfl ?_
 refine aH ?_
 refine ak ?_
 refine ap ?_
 refine d3 11 rfl mixed ?_
 have hvr := hv.room
 refine aD (i := 0) rfl ah (aj rfl) av av rfl (aa ar) (by kernel_rfl) rfl ?_
 refine aD (i := 1) rfl ah (bg rfl) av av rfl (aa ar) (by kernel_rfl) rfl ?_
 refine aD (i := 2) rfl ah (aF fa_146_3 rfl) av av rfl (aa ar) (by kernel_rfl) rfl ?_
 refine aD (i := 3) rfl ah (bO 0 eQ rfl rfl rfl) av av rfl (aa ar) (by kernel_rfl) rfl ?_
 refine aD (i := 4) rfl ah (aj rfl) av av rfl (aa ar) (by kernel_rfl) rfl ?_
 refine aD (i := 5) rfl ah (bg rfl) av av rfl (aa ar) (by kernel_rfl) rfl ?_
 refine aD (i := 6) rfl ah (aF dw rfl) av av rfl (aa ar) (by kernel_rfl) rfl ?_
 refine aD (i := 7) rfl ah (bO 0 ek rfl rfl rfl) av av rfl (aa ar) (by kernel_rfl) rfl ?_
 refine aD (i := 8) rfl ah (y_lenmp (encK := cB) (encV := cT) Tryz.underlying143 rfl (fun w hw => hw.sh _ (List.mem_of_getElem? (i := 1) rfl))) av av rfl (aa ar) (by kernel_rfl) rfl ?_
 refine aD (i := 9) rfl ah (ga rfl rfl (by omega) (by omega)) av av rfl (aa ar) (by kernel_rfl) rfl ?_
 refine aD (i := 10) rfl ah (ai rfl) av av rfl (aa ar) (by kernel_rfl) rfl ?_
 refine cw (by kernel_rfl) ?_
 refine ak ?_
 refine aJ ?_
 refine aN (ts := [2]) rfl rfl rfl (fun w hw => ?_)
 exact ⟨(), rfl, hw.base, (hw.weak (List.nil_sublist _) (fun s hs => hs)).toNews⟩

set_option maxRecDepth 100000 in
theorem c_vfree (v : Vp) (am : Am) (a : Ad) (hv : VOk v) (ha : 0 ≤ a.lo) : RC Tryz.prog 99 #[.pointer (some ⟨v.b, 0, none⟩), .agg (dW a).toArray] [Ch.row v.b (vpC v) 146, Ch.rd v.A 4 ea v.res, Ch.mp v.ra f8 cB am] (α := Unit) (fun _ => .bool (d8 v.res am a)) (fun _ => []) := by
 refine bp (args := [.pointer (some ⟨v.b, 0, none⟩), .agg (dW a).toArray]) 25 Tryz.func99 rfl rfl rfl (fun w0 => ?_)
 refine ap ?_
 refine ab ?_
 refine bI rfl rfl rfl (fun b1 => ?_)
 refine aq (ai rfl) rfl rfl ?_
 refine ae ?_
 refine ak ?_
 refine ap ?_
 refine ap ?_
 refine c5 11 rfl mixed ?_
 refine ax (i := 0) rfl ah (aj rfl) av av rfl (aa (aa ar)) (by kernel_rfl) rfl ?_
 refine ax (i := 1) rfl ah (bg rfl) av av rfl (aa (aa ar)) (by kernel_rfl) rfl ?_
 refine ax (i := 2) rfl ah (aF gg rfl) av av rfl (aa (aa ar)) (by kernel_rfl) rfl ?_
 refine ax (i := 3) rfl ah (bO 0 ty_144 rfl rfl rfl) av av rfl (aa (aa ar)) (by kernel_rfl) rfl ?_
 refine ax (i := 4) rfl ah (aM 0 aO rfl rfl rfl rfl) av av rfl (aa (aa ar)) (by kernel_rfl) rfl ?_
 refine cu (i := 5) rfl rfl rfl (fun _ _ _ => bx (by kernel_rfl)) (by kernel_rfl) rfl ?_
 refine aq (dS Tryz.underlying144 iC bC rfl rfl (fun w hw => hw.sh _ (List.mem_of_getElem? (i := 2) rfl))) rfl rfl ?_
 refine ae ?_
 refine bz av ?_
 refine fx (t := 13) (.tuple #[.string (ba ((co am a).getD [])), .bool (co am a).isSome]) rfl look2_n ?_
 refine ax (i := 6) rfl ah (aj rfl) av av rfl (aa (aa ar)) (by kernel_rfl) rfl ?_
 refine ax (i := 7) rfl ah (aI rfl rfl) av av rfl (aa (aa ar)) (by kernel_rfl) rfl ?_
 refine ax (i := 8) rfl ah (aI rfl rfl) av av rfl (aa (aa ar)) (by kernel_rfl) rfl ?_
 refine fy (t := 15) rfl (fun h1_8 => ?_) (fun h1_8 => ?_)
 refine ax (i := 9) rfl ah (ai rfl) av av rfl (aa (aa ar)) (by kernel_rfl) rfl ?_
 refine ax (i := 10) rfl ah (ai rfl) av av rfl (aa (aa ar)) (by kernel_rfl) rfl ?_
 refine cm (by kernel_rfl) ?_
 refine ak ?_
 refine ap ?_
 refine ab ?_
 refine aq (aj rfl) rfl rfl ?_
 refine ae ?_
 refine ak ?_
 refine aA rfl ?_
 refine ap ?_
 refine ab ?_
 refine aq (ai rfl) rfl rfl ?_
 refine ae ?_
 refine ak ?_
 refine aJ ?_
 refine aC ?_
 refine aN (ts := [4]) rfl rfl rfl (fun w hw => ?_)
 refine ⟨(), ?_, hw.base, (hw.weak (List.nil_sublist _) (fun s hs => hs)).toNews⟩
 show Ending.returned (.bool _) = _
 congr 2
 focus first
   | (rw [d8, h1_8]; rfl)
   | (trace_state; fail)
 refine ax (i := 9) rfl ah (ai rfl) av av rfl (aa (aa ar)) (by kernel_rfl) rfl ?_
 refine ax (i := 10) rfl ah (ai rfl) av av rfl (aa (aa ar)) (by kernel_rfl) rfl ?_
 refine cm (by kernel_rfl) ?_
 refine ak ?_
 refine ap ?_
 refine ab ?_
 refine aq (aj rfl) rfl rfl ?_
 refine ae ?_
 refine ak ?_
 refine ay rfl ?_
 refine aH ?_
 refine ak ?_
 refine ap ?_
 refine ab ?_
 refine aq (aj rfl) rfl rfl ?_
 refine aq (bg rfl) rfl rfl ?_
 refine aq (aF gq rfl) rfl rfl ?_
 refine aq (aF eD rfl) rfl rfl ?_
 refine aq (bO 0 gJ rfl rfl rfl) rfl rfl ?_
 refine aq (dN rfl rfl) rfl rfl ?_
 refine bh rfl ent_157 rfl (c_cntV v.res v.A v.c a b1 hv.res ha hv.len) (fun w hw => (aP (ce 1 rfl hw) (aP (eu 0 rfl hw) a8))) ?_
 refine aq (bF rfl) rfl rfl ?_
 refine aq (ai rfl) rfl rfl ?_
 refine ae ?_
 refine ak ?_
 refine aJ ?_
 refine aN (ts := [4]) rfl rfl rfl (fun w hw => ?_)
 refine ⟨(), ?_, hw.base, (hw.weak (List.nil_sublist _) (fun s hs => hs)).toNews⟩
 show Ending.returned (.bool _) = _
 congr 2
 focus first
   | (rw [d8, h1_8]; rfl)
   | (trace_state; fail)

set_option maxRecDepth 100000 in
theorem c_vdrop (v : Vp) (hm : Hm) (am : Am) (key : aU) : UC Tryz.prog 104 #[.pointer (some ⟨v.b, 0, none⟩), .string (ba key)] [Ch.row v.b (vpC v) 146] (vmC v hm am) (α := Unit) (fun _ => .tuple #[]) (fun _ => vmC v (iB hm am key).1 (iB hm am key).2) := by
 refine e8 (args := [.pointer (some ⟨v.b, 0, none⟩), .string (ba key)]) 20 Tryz.func104 rfl rfl rfl (fun w0 => ?_)
 refine dp (fun w h => h.untwo) ?_
 refine ap ?_
 refine c5 11 rfl mixed ?_
 refine ax (i := 0) rfl ah (aj rfl) av av rfl (aa ar) (by kernel_rfl) rfl ?_
 refine ax (i := 1) rfl ah (bg rfl) av av rfl (aa ar) (by kernel_rfl) rfl ?_
 refine ax (i := 2) rfl ah (aF gg rfl) av av rfl (aa ar) (by kernel_rfl) rfl ?_
 refine ax (i := 3) rfl ah (bO 0 ty_144 rfl rfl rfl) av av rfl (aa ar) (by kernel_rfl) rfl ?_
 refine ax (i := 4) rfl ah (aj rfl) av av rfl (aa ar) (by kernel_rfl) rfl ?_
 refine ax (i := 5) rfl ah (bg rfl) av av rfl (aa ar) (by kernel_rfl) rfl ?_
 refine ax (i := 6) rfl ah (aF dw rfl) av av rfl (aa ar) (by kernel_rfl) rfl ?_
 refine ax (i := 7) rfl ah (bO 0 ek rfl rfl rfl) av av rfl (aa ar) (by kernel_rfl) rfl ?_
 refine ax (i := 8) rfl ah (aj rfl) av av rfl (aa ar) (by kernel_rfl) rfl ?_
 refine cu (i := 9) rfl rfl rfl (fun _ _ _ => bx (by kernel_rfl)) (by kernel_rfl) rfl ?_
 refine aq (il Tryz.underlying143 (cH Tryz.underlying26) bL rfl rfl (fun w hw => hw.own _ (List.mem_of_getElem? (i := 0) rfl))) rfl rfl ?_
 refine ae ?_
 refine bz av ?_
 refine fx (t := 13) (.agg (gI ((co hm key).getD cV)).toArray) rfl look1_hd ?_
 refine ax (i := 10) rfl ah (y_fieldv (v := .agg (dW ((co hm key).getD cV).ad).toArray) rfl (fun w => by kernel_rfl)) av av rfl (aa ar) (by kernel_rfl) rfl ?_
 refine cu (i := 11) rfl rfl rfl (fun _ _ _ => bx (by kernel_rfl)) (by kernel_rfl) rfl ?_
 refine o_mapDel (encK := f8) (encV := cB) (a := ((co hm key).getD cV).ad) Tryz.underlying144 iC rfl rfl (.s (.z)) ?_
 refine ae ?_
 refine eu_tail rfl ?_
 refine cm (by kernel_rfl) ?_
 refine ak ?_
 refine ab ?_
 refine aq (aj rfl) rfl rfl ?_
 refine aq (bg rfl) rfl rfl ?_
 refine aq (aF dw rfl) rfl rfl ?_
 refine aq (bO 0 ek rfl rfl rfl) rfl rfl ?_
 refine aq (aj rfl) rfl rfl ?_
 refine o_mapDel (encK := cB) (encV := cT) (a := key) Tryz.underlying143 (cH Tryz.underlying26) rfl rfl .z ?_
 refine ae ?_
 refine im (ts := []) rfl rfl rfl (fun w hw => ?_)
 obtain ⟨h1, h2, h3⟩ := hw.two.uc
 exact ⟨(), rfl, h1, h2, h3⟩

theorem c_vDrop (v : Vp) (hm : Hm) (am : Am) (n : aU) (hn : n.length ≤ 1000000000) : UC Tryz.prog 38 #[.pointer (some ⟨v.b, 0, none⟩), .string (ba n)] [Ch.row v.b (vpC v) 146] (vmC v hm am) (α := Unit) (fun o => .int .i64 (dY hm am n).1) (fun o => vmC v (dY hm am n).2.1 (dY hm am n).2.2) := by
 refine e8 (args := [.pointer (some ⟨v.b, 0, none⟩), .string (ba n)]) 31 Tryz.func38 rfl rfl rfl (fun w0 => ?_)
 refine dp (fun w h => h.untwo) ?_
 refine ap ?_
 refine ab ?_
 refine aq (ai rfl) rfl rfl ?_
 refine ae ?_
 refine ak ?_
 refine ap ?_
 refine aR ?_
 refine ap ?_
 refine ab ?_
 refine aq (aj rfl) rfl rfl ?_
 refine aq (gv Tryz.underlying68 rfl rfl) rfl rfl ?_
 refine bZ (t := 10) (.bool false) rfl (congrArg Value.bool rfl) ?_
 refine aq (ai rfl) rfl rfl ?_
 refine ae ?_
 refine ak ?_
 refine ay rfl ?_
 refine ap ?_
 refine ab ?_
 refine aq (aj rfl) rfl rfl ?_
 refine aV rfl ent_95 (c_vhost _) rfl ?_
 refine bi (t := 13) rfl (fun h3_1 => ?_) (fun h3_1 => ?_)
 refine aq (bF rfl) rfl rfl ?_
 refine aq (ai rfl) rfl rfl ?_
 refine ae ?_
 refine ak ?_
 refine ay rfl ?_
 refine aH ?_
 refine bo ?_
 refine ak ?_
 refine ap ?_
 refine ab ?_
 refine aq (aj rfl) rfl rfl ?_
 refine aV rfl fM (dx _ (by omega)) rfl ?_
 refine aq (ai rfl) rfl rfl ?_
 refine ae ?_
 refine ak ?_
 refine ap ?_
 refine ap ?_
 refine ab ?_
 refine aq (aj rfl) rfl rfl ?_
 refine aq (bg rfl) rfl rfl ?_
 refine aq (aF dw rfl) rfl rfl ?_
 refine aq (bO 0 ek rfl rfl rfl) rfl rfl ?_
 refine aq (aj rfl) rfl rfl ?_
 refine aq (dS Tryz.underlying143 (cH Tryz.underlying26) bL rfl rfl (fun w hw => hw.own _ (List.mem_of_getElem? (i := 0) rfl))) rfl rfl ?_
 refine bZ (t := 23) (.tuple #[.agg (gI ((co hm (aX n)).getD cV)).toArray, .bool (co hm (aX n)).isSome]) rfl fF ?_
 refine aq (aj rfl) rfl rfl ?_
 refine aq (aI rfl rfl) rfl rfl ?_
 refine aq (aI rfl rfl) rfl rfl ?_
 refine bi (t := 25) rfl (fun h6_8 => ?_) (fun h6_8 => ?_)
 refine br bL rfl rfl (fun b1 => ?_)
 refine aW bL rfl rfl rfl .z rfl rfl rfl rfl ?_
 refine aq (ai rfl) rfl rfl ?_
 refine ae ?_
 refine ak ?_
 refine ap ?_
 refine ab ?_
 refine aq (aj rfl) rfl rfl ?_
 refine aq (bF rfl) rfl rfl ?_
 refine ae ?_
 refine ak ?_
 refine ay rfl ?_
 refine aH ?_
 refine ak ?_
 refine ap ?_
 refine ab ?_
 refine aq (aj rfl) rfl rfl ?_
 refine aq (aj rfl) rfl rfl ?_
 refine di (fun w h => h.f2.f2.two) ?_
 refine c6 rfl ent_104 rfl (c_vdrop v hm am (aX n)) (fun o => .z) (List.mem_of_getElem? (i := 0) rfl) (fun s hs => (List.mem_singleton.1 hs) ▸ .head _) (fun o1 => ?_)
 refine di (fun w h => h.untwo) ?_
 refine ae ?_
 refine ak ?_
 refine ap ?_
 refine ab ?_
 refine aq (ai rfl) rfl rfl ?_
 refine ae ?_
 refine ak ?_
 refine aJ ?_
 refine aN (ts := [4]) rfl rfl rfl (fun w hw => ?_)
 obtain ⟨h1, h2, h3⟩ := (hw.weak (.cons_cons _ (.cons_cons _ (.cons _ .slnil))) (fun s hs => hs)).f1.f1.two.uc
 focus first
   | (have hE : dY hm am n = (2, hm, am) := if_pos h3_1
      rw [hE]
      exact ⟨(), rfl, h1, h2, h3⟩)
   | (have hE : dY hm am n = (5, hm, am) := by rw [dY, if_neg (by rw [h3_1]; decide), if_pos h6_8]
      rw [hE]
      exact ⟨(), rfl, h1, h2, h3⟩)
   | (have hE : dY hm am n = (0, iB hm am (aX n)) := by rw [dY, if_neg (by rw [h3_1]; decide), if_neg (by rw [h6_8]; decide)]
      rw [hE]
      exact ⟨(), rfl, h1, h2, h3⟩)
   | (trace_state; fail)
 refine br bL rfl rfl (fun b3 => ?_)
 refine aW bL rfl rfl rfl .z rfl rfl rfl rfl ?_
 refine aq (ai rfl) rfl rfl ?_
 refine ae ?_
 refine ak ?_
 refine ap ?_
 refine ab ?_
 refine aq (aj rfl) rfl rfl ?_
 refine aq (bF rfl) rfl rfl ?_
 refine ae ?_
 refine ak ?_
 refine aA rfl ?_
 refine ap ?_
 refine ab ?_
 refine aq (ai rfl) rfl rfl ?_
 refine ae ?_
 refine ak ?_
 refine aJ ?_
 refine aC ?_
 refine aN (ts := [4]) rfl rfl rfl (fun w hw => ?_)
 obtain ⟨h1, h2, h3⟩ := (hw.weak (.cons _ (.cons_cons _ (.cons_cons _ .slnil))) (fun s hs => hs)).f1.f1.two.uc
 focus first
   | (have hE : dY hm am n = (2, hm, am) := if_pos h3_1
      rw [hE]
      exact ⟨(), rfl, h1, h2, h3⟩)
   | (have hE : dY hm am n = (5, hm, am) := by rw [dY, if_neg (by rw [h3_1]; decide), if_pos h6_8]
      rw [hE]
      exact ⟨(), rfl, h1, h2, h3⟩)
   | (have hE : dY hm am n = (0, iB hm am (aX n)) := by rw [dY, if_neg (by rw [h3_1]; decide), if_neg (by rw [h6_8]; decide)]
      rw [hE]
      exact ⟨(), rfl, h1, h2, h3⟩)
   | (trace_state; fail)
 refine aq (bF rfl) rfl rfl ?_
 refine aq (ai rfl) rfl rfl ?_
 refine ae ?_
 refine ak ?_
 refine aA rfl ?_
 refine ap ?_
 refine ab ?_
 refine aq (ai rfl) rfl rfl ?_
 refine ae ?_
 refine ak ?_
 refine aJ ?_
 refine aT ?_
 refine aC ?_
 refine aN (ts := [4]) rfl rfl rfl (fun w hw => ?_)
 obtain ⟨h1, h2, h3⟩ := (hw.weak (.cons_cons _ (.cons_cons _ .slnil)) (fun s hs => hs)).f1.f1.two.uc
 focus first
   | (have hE : dY hm am n = (2, hm, am) := if_pos h3_1
      rw [hE]
      exact ⟨(), rfl, h1, h2, h3⟩)
   | (have hE : dY hm am n = (5, hm, am) := by rw [dY, if_neg (by rw [h3_1]; decide), if_pos h6_8]
      rw [hE]
      exact ⟨(), rfl, h1, h2, h3⟩)
   | (have hE : dY hm am n = (0, iB hm am (aX n)) := by rw [dY, if_neg (by rw [h3_1]; decide), if_neg (by rw [h6_8]; decide)]
      rw [hE]
      exact ⟨(), rfl, h1, h2, h3⟩)
   | (trace_state; fail)

set_option maxRecDepth 100000 in
theorem c_vOf (v : Vp) (hm : Hm) (n : aU) (hn : n.length ≤ 1000000000) : RC Tryz.prog 37 #[.pointer (some ⟨v.b, 0, none⟩), .string (ba n)] [Ch.row v.b (vpC v) 146, Ch.mp v.rh cB cT hm] (α := Unit) (fun _ => .tuple #[.agg (dW (ofV hm n).1).toArray, .bool (ofV hm n).2]) (fun _ => []) := by
 refine bp (args := [.pointer (some ⟨v.b, 0, none⟩), .string (ba n)]) 29 Tryz.func37 rfl rfl rfl (fun w0 => ?_)
 refine ap ?_
 refine ab ?_
 refine br aO rfl rfl (fun b1 => ?_)
 refine aq (ai rfl) rfl rfl ?_
 refine ae ?_
 refine ak ?_
 refine ap ?_
 refine ap ?_
 refine ab ?_
 refine aq (aj rfl) rfl rfl ?_
 refine aq (gv Tryz.underlying68 rfl rfl) rfl rfl ?_
 refine bZ (t := 9) (.bool false) rfl (congrArg Value.bool rfl) ?_
 refine aq (aj rfl) rfl rfl ?_
 refine aw rfl rfl ?_
 refine aq (aj rfl) rfl rfl ?_
 refine aw rfl rfl ?_
 refine aV rfl ent_95 (c_vhost _) rfl ?_
 refine bi (t := 12) rfl (fun h1_4 => ?_) (fun h1_4 => ?_)
 refine aw rfl rfl ?_
 refine aq (bF rfl) rfl rfl ?_
 refine aq (aL rfl rfl) rfl rfl ?_
 refine ae ?_
 refine ak ?_
 refine ay rfl ?_
 refine aH ?_
 refine ak ?_
 refine ap ?_
 refine c5 13 rfl mixed ?_
 refine ax (i := 0) rfl ah (aj rfl) av av rfl (aa ar) (by kernel_rfl) rfl ?_
 refine ax (i := 1) rfl ah (bg rfl) av av rfl (aa ar) (by kernel_rfl) rfl ?_
 refine ax (i := 2) rfl ah (aF dw rfl) av av rfl (aa ar) (by kernel_rfl) rfl ?_
 refine ax (i := 3) rfl ah (bO 0 ek rfl rfl rfl) av av rfl (aa ar) (by kernel_rfl) rfl ?_
 refine ax (i := 4) rfl ah (aj rfl) av av rfl (aa ar) (by kernel_rfl) rfl ?_
 refine hJ (js := [5, 10]) (by kernel_rfl) rfl ?_
 refine cN (i := 5) rfl rfl rfl (bf rfl fM) rfl ?_ ?_
 refine aV rfl fM (dx _ (by omega)) rfl ?_
 refine ae ?_
 refine bz av ?_
 refine hJ (js := [6, 10]) (by kernel_rfl) rfl ?_
 refine cN (i := 6) rfl rfl rfl (fun _ _ _ => bx (by kernel_rfl)) rfl ?_ ?_
 refine aq (dS Tryz.underlying143 (cH Tryz.underlying26) bL rfl rfl (fun w hw => hw.sh _ (List.mem_of_getElem? (i := 1) rfl))) rfl rfl ?_
 refine ae ?_
 refine bz av ?_
 refine fx (t := 23) (.tuple #[.agg (gI ((co hm (aX n)).getD cV)).toArray, .bool (co hm (aX n)).isSome]) rfl fF ?_
 refine ax (i := 7) rfl ah (aj rfl) av av rfl (aa ar) (by kernel_rfl) rfl ?_
 refine ax (i := 8) rfl ah (aI rfl rfl) av av rfl (aa ar) (by kernel_rfl) rfl ?_
 refine ax (i := 9) rfl ah (aI rfl rfl) av av rfl (aa ar) (by kernel_rfl) rfl ?_
 refine cu (i := 10) rfl rfl rfl (fun _ _ _ => bx (by kernel_rfl)) (by kernel_rfl) rfl ?_
 refine br bL rfl rfl (fun b2 => ?_)
 refine ae ?_
 refine bz (cr 1) ?_
 refine cu (i := 11) rfl rfl rfl (fun _ _ _ => bx (by kernel_rfl)) (by kernel_rfl) rfl ?_
 refine aW bL rfl rfl rfl .z rfl rfl rfl rfl ?_
 refine ae ?_
 refine bz (cr 1) ?_
 refine ax (i := 12) rfl ah (ai rfl) (cr 1) av rfl (aa ar) (by kernel_rfl) rfl ?_
 refine cm (by kernel_rfl) ?_
 refine ak ?_
 refine ap ?_
 refine ab ?_
 refine aq (aF dy rfl) rfl rfl ?_
 refine aq (aM 0 aO rfl rfl rfl rfl) rfl rfl ?_
 refine aq (aj rfl) rfl rfl ?_
 refine aW aO rfl rfl rfl (.s (.z)) rfl rfl rfl rfl ?_
 refine aq (ai rfl) rfl rfl ?_
 refine ae ?_
 refine ak ?_
 refine aJ ?_
 refine dT (rs := [.cell 4 29, .tmp 5]) rfl (bG 1 aO rfl rfl rfl rfl (cQ rfl bW)) rfl (fun w hw => ?_)
 focus first
   | (have hE : ofV hm n = (ad0, false) := if_pos h1_4
      rw [hE]
      exact ⟨(), rfl, hw.base, (hw.weak (List.nil_sublist _) (fun s hs => hs)).toNews⟩)
   | (have hE : ofV hm n = (((co hm (aX n)).getD cV).ad, (co hm (aX n)).isSome) := if_neg (by rw [h1_4]; decide)
      rw [hE]
      exact ⟨(), rfl, hw.base, (hw.weak (List.nil_sublist _) (fun s hs => hs)).toNews⟩)
   | (trace_state; fail)
 refine cN (i := 10) rfl rfl rfl (fun _ _ _ => bx (by kernel_rfl)) rfl ?_ ?_
 refine br bL rfl rfl (fun b3 => ?_)
 refine ae ?_
 refine bz (cr 1) ?_
 refine cu (i := 6) rfl rfl rfl (fun _ _ _ => bx (by kernel_rfl)) (by kernel_rfl) rfl ?_
 refine aq (dS Tryz.underlying143 (cH Tryz.underlying26) bL rfl rfl (fun w hw => hw.sh _ (List.mem_of_getElem? (i := 1) rfl))) rfl rfl ?_
 refine ae ?_
 refine bz (cr 1) ?_
 refine fx (t := 23) (.tuple #[.agg (gI ((co hm (aX n)).getD cV)).toArray, .bool (co hm (aX n)).isSome]) rfl fF ?_
 refine ax (i := 7) rfl ah (aj rfl) (cr 1) av rfl (aa ar) (by kernel_rfl) rfl ?_
 refine ax (i := 8) rfl ah (aI rfl rfl) (cr 1) av rfl (aa ar) (by kernel_rfl) rfl ?_
 refine ax (i := 9) rfl ah (aI rfl rfl) (cr 1) av rfl (aa ar) (by kernel_rfl) rfl ?_
 refine cu (i := 11) rfl rfl rfl (fun _ _ _ => bx (by kernel_rfl)) (by kernel_rfl) rfl ?_
 refine aW bL rfl rfl rfl .z rfl rfl rfl rfl ?_
 refine ae ?_
 refine bz (cr 1) ?_
 refine ax (i := 12) rfl ah (ai rfl) (cr 1) av rfl (aa ar) (by kernel_rfl) rfl ?_
 refine cm (by kernel_rfl) ?_
 refine ak ?_
 refine ap ?_
 refine ab ?_
 refine aq (aF dy rfl) rfl rfl ?_
 refine aq (aM 0 aO rfl rfl rfl rfl) rfl rfl ?_
 refine aq (aj rfl) rfl rfl ?_
 refine aW aO rfl rfl rfl (.s (.z)) rfl rfl rfl rfl ?_
 refine aq (ai rfl) rfl rfl ?_
 refine ae ?_
 refine ak ?_
 refine aJ ?_
 refine dT (rs := [.cell 4 29, .tmp 5]) rfl (bG 1 aO rfl rfl rfl rfl (cQ rfl bW)) rfl (fun w hw => ?_)
 focus first
   | (have hE : ofV hm n = (ad0, false) := if_pos h1_4
      rw [hE]
      exact ⟨(), rfl, hw.base, (hw.weak (List.nil_sublist _) (fun s hs => hs)).toNews⟩)
   | (have hE : ofV hm n = (((co hm (aX n)).getD cV).ad, (co hm (aX n)).isSome) := if_neg (by rw [h1_4]; decide)
      rw [hE]
      exact ⟨(), rfl, hw.base, (hw.weak (List.nil_sublist _) (fun s hs => hs)).toNews⟩)
   | (trace_state; fail)
 exact fO
 refine cN (i := 10) rfl rfl rfl (fun _ _ _ => bx (by kernel_rfl)) rfl ?_ ?_
 refine br bL rfl rfl (fun b4 => ?_)
 refine ae ?_
 refine bz (cr 1) ?_
 refine cu (i := 5) rfl rfl rfl (bf rfl fM) (by kernel_rfl) rfl ?_
 refine aV rfl fM (dx _ (by omega)) rfl ?_
 refine ae ?_
 refine bz (cr 1) ?_
 refine cu (i := 6) rfl rfl rfl (fun _ _ _ => bx (by kernel_rfl)) (by kernel_rfl) rfl ?_
 refine aq (dS Tryz.underlying143 (cH Tryz.underlying26) bL rfl rfl (fun w hw => hw.sh _ (List.mem_of_getElem? (i := 1) rfl))) rfl rfl ?_
 refine ae ?_
 refine bz (cr 1) ?_
 refine fx (t := 23) (.tuple #[.agg (gI ((co hm (aX n)).getD cV)).toArray, .bool (co hm (aX n)).isSome]) rfl fF ?_
 refine ax (i := 7) rfl ah (aj rfl) (cr 1) av rfl (aa ar) (by kernel_rfl) rfl ?_
 refine ax (i := 8) rfl ah (aI rfl rfl) (cr 1) av rfl (aa ar) (by kernel_rfl) rfl ?_
 refine ax (i := 9) rfl ah (aI rfl rfl) (cr 1) av rfl (aa ar) (by kernel_rfl) rfl ?_
 refine cu (i := 11) rfl rfl rfl (fun _ _ _ => bx (by kernel_rfl)) (by kernel_rfl) rfl ?_
 refine aW bL rfl rfl rfl .z rfl rfl rfl rfl ?_
 refine ae ?_
 refine bz (cr 1) ?_
 refine ax (i := 12) rfl ah (ai rfl) (cr 1) av rfl (aa ar) (by kernel_rfl) rfl ?_
 refine cm (by kernel_rfl) ?_
 refine ak ?_
 refine ap ?_
 refine ab ?_
 refine aq (aF dy rfl) rfl rfl ?_
 refine aq (aM 0 aO rfl rfl rfl rfl) rfl rfl ?_
 refine aq (aj rfl) rfl rfl ?_
 refine aW aO rfl rfl rfl (.s (.z)) rfl rfl rfl rfl ?_
 refine aq (ai rfl) rfl rfl ?_
 refine ae ?_
 refine ak ?_
 refine aJ ?_
 refine dT (rs := [.cell 4 29, .tmp 5]) rfl (bG 1 aO rfl rfl rfl rfl (cQ rfl bW)) rfl (fun w hw => ?_)
 focus first
   | (have hE : ofV hm n = (ad0, false) := if_pos h1_4
      rw [hE]
      exact ⟨(), rfl, hw.base, (hw.weak (List.nil_sublist _) (fun s hs => hs)).toNews⟩)
   | (have hE : ofV hm n = (((co hm (aX n)).getD cV).ad, (co hm (aX n)).isSome) := if_neg (by rw [h1_4]; decide)
      rw [hE]
      exact ⟨(), rfl, hw.base, (hw.weak (List.nil_sublist _) (fun s hs => hs)).toNews⟩)
   | (trace_state; fail)
 exact fO
 refine aw rfl rfl ?_
 refine aq (bF rfl) rfl rfl ?_
 refine aq (aL rfl rfl) rfl rfl ?_
 refine ae ?_
 refine ak ?_
 refine aA rfl ?_
 refine ap ?_
 refine ab ?_
 refine aq (cc rfl (fu)) rfl rfl ?_
 refine aW aO rfl rfl rfl .z rfl rfl rfl rfl ?_
 refine aq (ai rfl) rfl rfl ?_
 refine ae ?_
 refine ak ?_
 refine aJ ?_
 refine aC ?_
 refine dT (rs := [.cell 4 29, .tmp 5]) rfl (bG 0 aO rfl rfl rfl rfl (cQ rfl bW)) rfl (fun w hw => ?_)
 focus first
   | (have hE : ofV hm n = (ad0, false) := if_pos h1_4
      rw [hE]
      exact ⟨(), rfl, hw.base, (hw.weak (List.nil_sublist _) (fun s hs => hs)).toNews⟩)
   | (have hE : ofV hm n = (((co hm (aX n)).getD cV).ad, (co hm (aX n)).isSome) := if_neg (by rw [h1_4]; decide)
      rw [hE]
      exact ⟨(), rfl, hw.base, (hw.weak (List.nil_sublist _) (fun s hs => hs)).toNews⟩)
   | (trace_state; fail)

set_option maxRecDepth 100000 in
theorem c_vHost (v : Vp) (hm : Hm) (am : Am) (a : Ad) : RC Tryz.prog 45 #[.pointer (some ⟨v.b, 0, none⟩), .agg (dW a).toArray] [Ch.row v.b (vpC v) 146, Ch.mp v.rh cB cT hm, Ch.mp v.ra f8 cB am] (α := Unit) (fun _ => .tuple #[.string (ba (eW hm am a).1), .bool (eW hm am a).2]) (fun _ => []) := by
 refine bp (args := [.pointer (some ⟨v.b, 0, none⟩), .agg (dW a).toArray]) 28 Tryz.func45 rfl rfl rfl (fun w0 => ?_)
 refine ap ?_
 refine ab ?_
 refine bI rfl rfl rfl (fun b1 => ?_)
 refine aq (ai rfl) rfl rfl ?_
 refine aq (ai rfl) rfl rfl ?_
 refine ae ?_
 refine ak ?_
 refine ap ?_
 refine ap ?_
 refine ab ?_
 refine aq (aj rfl) rfl rfl ?_
 refine aq (gv Tryz.underlying68 rfl rfl) rfl rfl ?_
 refine bZ (t := 9) (.bool false) rfl (congrArg Value.bool rfl) ?_
 refine ae ?_
 refine ak ?_
 refine ay rfl ?_
 refine aH ?_
 refine ak ?_
 refine ap ?_
 refine c5 11 rfl mixed ?_
 refine ax (i := 0) rfl ah (aj rfl) av av rfl (aa ar) (by kernel_rfl) rfl ?_
 refine ax (i := 1) rfl ah (bg rfl) av av rfl (aa ar) (by kernel_rfl) rfl ?_
 refine ax (i := 2) rfl ah (aF gg rfl) av av rfl (aa ar) (by kernel_rfl) rfl ?_
 refine ax (i := 3) rfl ah (bO 0 ty_144 rfl rfl rfl) av av rfl (aa ar) (by kernel_rfl) rfl ?_
 refine ax (i := 4) rfl ah (aM 0 aO rfl rfl rfl rfl) av av rfl (aa ar) (by kernel_rfl) rfl ?_
 refine cu (i := 5) rfl rfl rfl (fun _ _ _ => bx (by kernel_rfl)) (by kernel_rfl) rfl ?_
 refine aq (dS Tryz.underlying144 iC bC rfl rfl (fun w hw => hw.sh _ (List.mem_of_getElem? (i := 2) rfl))) rfl rfl ?_
 refine ae ?_
 refine bz av ?_
 refine fx (t := 16) (.tuple #[.string (ba ((co am a).getD [])), .bool (co am a).isSome]) rfl look2_n ?_
 refine ax (i := 6) rfl ah (aj rfl) av av rfl (aa ar) (by kernel_rfl) rfl ?_
 refine ax (i := 7) rfl ah (aI rfl rfl) av av rfl (aa ar) (by kernel_rfl) rfl ?_
 refine ax (i := 8) rfl ah (aI rfl rfl) av av rfl (aa ar) (by kernel_rfl) rfl ?_
 refine fy (t := 18) rfl (fun h3_8 => ?_) (fun h3_8 => ?_)
 refine ax (i := 9) rfl ah (ai rfl) av av rfl (aa ar) (by kernel_rfl) rfl ?_
 refine ax (i := 10) rfl ah (ai rfl) av av rfl (aa ar) (by kernel_rfl) rfl ?_
 refine cm (by kernel_rfl) ?_
 refine ak ?_
 refine ap ?_
 refine ap ?_
 refine ab ?_
 refine aq (aj rfl) rfl rfl ?_
 refine aq (bF rfl) rfl rfl ?_
 refine ae ?_
 refine ak ?_
 refine ay rfl ?_
 refine aH ?_
 refine ak ?_
 refine ap ?_
 refine ab ?_
 refine aq (aj rfl) rfl rfl ?_
 refine aq (bg rfl) rfl rfl ?_
 refine aq (aF dw rfl) rfl rfl ?_
 refine aq (bO 0 ek rfl rfl rfl) rfl rfl ?_
 refine aq (aj rfl) rfl rfl ?_
 refine aq (il Tryz.underlying143 (cH Tryz.underlying26) bL rfl rfl (fun w hw => hw.sh _ (List.mem_of_getElem? (i := 1) rfl))) rfl rfl ?_
 refine bZ (t := 26) (.agg (gI ((co hm ((co am a).getD [])).getD cV)).toArray) rfl look1_hd ?_
 refine aq (y_fieldv (v := .string (ba ((co hm ((co am a).getD [])).getD cV).host)) rfl (fun w => by kernel_rfl)) rfl rfl ?_
 refine aq (ai rfl) rfl rfl ?_
 refine aq (ai rfl) rfl rfl ?_
 refine ae ?_
 refine ak ?_
 refine aJ ?_
 refine aN (ts := [4, 5]) rfl rfl rfl (fun w hw => ?_)
 focus first
   | (have hE : eW hm am a = ([], false) := if_pos h3_8
      rw [hE]
      exact ⟨(), rfl, hw.base, (hw.weak (List.nil_sublist _) (fun s hs => hs)).toNews⟩)
   | (have hE : eW hm am a = (((co hm ((co am a).getD [])).getD cV).host, true) := if_neg (by rw [h3_8]; decide)
      rw [hE]
      exact ⟨(), rfl, hw.base, (hw.weak (List.nil_sublist _) (fun s hs => hs)).toNews⟩)
   | (trace_state; fail)
 refine ax (i := 9) rfl ah (ai rfl) av av rfl (aa ar) (by kernel_rfl) rfl ?_
 refine ax (i := 10) rfl ah (ai rfl) av av rfl (aa ar) (by kernel_rfl) rfl ?_
 refine cm (by kernel_rfl) ?_
 refine ak ?_
 refine ap ?_
 refine ap ?_
 refine ab ?_
 refine aq (aj rfl) rfl rfl ?_
 refine aq (bF rfl) rfl rfl ?_
 refine ae ?_
 refine ak ?_
 refine aA rfl ?_
 refine ap ?_
 refine ab ?_
 refine aq (ai rfl) rfl rfl ?_
 refine aq (ai rfl) rfl rfl ?_
 refine ae ?_
 refine ak ?_
 refine aJ ?_
 refine aC ?_
 refine aN (ts := [4, 5]) rfl rfl rfl (fun w hw => ?_)
 focus first
   | (have hE : eW hm am a = ([], false) := if_pos h3_8
      rw [hE]
      exact ⟨(), rfl, hw.base, (hw.weak (List.nil_sublist _) (fun s hs => hs)).toNews⟩)
   | (have hE : eW hm am a = (((co hm ((co am a).getD [])).getD cV).host, true) := if_neg (by rw [h3_8]; decide)
      rw [hE]
      exact ⟨(), rfl, hw.base, (hw.weak (List.nil_sublist _) (fun s hs => hs)).toNews⟩)
   | (trace_state; fail)

theorem gy {n : aU} {slots : Nat} {e : Int} (h : e ∈ dM n slots) : 0 ≤ e ∧ e < slots := by
  obtain ⟨k, hk, rfl⟩ := List.mem_iff_getElem.1 h
  rw [cP] at hk
  have h1 := e5 n slots k hk
  rw [List.getD_eq_getElem?_getD, List.getElem?_eq_getElem (by rw [cP]; exact hk)] at h1
  have h2 := atH_rng (n := n) (slots := slots) (by omega) k
  have h3 : (dM n slots)[k]'(by rw [cP]; exact hk) = atH n slots k := h1
  rw [h3]; exact h2
theorem atR_lo (r : Rg) (i : Int) : 0 ≤ (atR r i).1.lo := by
  unfold atR
  split
  · exact ad0_lo
  · exact addA_lo _ _

set_option maxRecDepth 100000 in
set_option maxHeartbeats 4000000 in
theorem c_vGive (v : Vp) (hm : Hm) (am : Am) (n : aU) (hv : VOk v) (hn : n.length ≤ 1000000000) (hml : hm.length ≤ 1000000) : UC Tryz.prog 34 #[.pointer (some ⟨v.b, 0, none⟩), .string (ba n)] [Ch.row v.b (vpC v) 146, Ch.rd v.A 4 ea v.res] (vmC v hm am) (α := Unit) (fun o => .tuple #[.agg (dW (bN v hm am n).1.1).toArray, .int .i64 (bN v hm am n).1.2]) (fun o => vmC v (bN v hm am n).2.1 (bN v hm am n).2.2) := by
 refine uc_of_WM (args := [.pointer (some ⟨v.b, 0, none⟩), .string (ba n)]) 81 Tryz.func34 rfl rfl rfl (fun w0 => ?_)
 refine dp (fun w h => h.untwo) ?_
 refine ap ?_
 refine ab ?_
 refine bI rfl rfl rfl (fun b1 => ?_)
 refine bI rfl rfl rfl (fun b2 => ?_)
 refine br aO rfl rfl (fun b3 => ?_)
 refine br d2 rfl rfl (fun b4 => ?_)
 refine ae ?_
 refine ak ?_
 refine ap ?_
 refine aR ?_
 refine ap ?_
 refine ab ?_
 refine aq (aQ 3 eU rfl rfl rfl) rfl rfl ?_
 refine aq (gv Tryz.underlying68 rfl rfl) rfl rfl ?_
 refine bZ (t := 14) (.bool false) rfl (congrArg Value.bool rfl) ?_
 refine aq (ai rfl) rfl rfl ?_
 refine ae ?_
 refine ak ?_
 refine ay rfl ?_
 refine ap ?_
 refine ab ?_
 refine aq (aQ 2 bC rfl rfl rfl) rfl rfl ?_
 refine aV rfl ent_95 (c_vhost _) rfl ?_
 refine bi (t := 18) rfl (fun h3_1 => ?_) (fun h3_1 => ?_)
 refine aq (bF rfl) rfl rfl ?_
 refine aq (ai rfl) rfl rfl ?_
 refine ae ?_
 refine ak ?_
 refine ay rfl ?_
 refine aH ?_
 refine bo ?_
 refine ak ?_
 refine ap ?_
 refine ab ?_
 refine aq (aQ 2 bC rfl rfl rfl) rfl rfl ?_
 refine aV rfl fM (dx _ (by omega)) rfl ?_
 refine br bC rfl rfl (fun b5 => ?_)
 refine aW bC rfl rfl rfl .z rfl rfl rfl rfl ?_
 refine ae ?_
 refine ak ?_
 refine ap ?_
 refine ap ?_
 refine w_drawV 12 mixed ?_
 refine bk (i := 0) rfl ah (aQ 4 eU rfl rfl rfl) av av rfl (aa (aa ar)) (by kernel_rfl) rfl ?_
 refine bk (i := 1) rfl ah (bg rfl) av av rfl (aa (aa ar)) (by kernel_rfl) rfl ?_
 refine bk (i := 2) rfl ah (aF dw rfl) av av rfl (aa (aa ar)) (by kernel_rfl) rfl ?_
 refine bk (i := 3) rfl ah (bO 0 ek rfl rfl rfl) av av rfl (aa (aa ar)) (by kernel_rfl) rfl ?_
 refine bk (i := 4) rfl ah (aQ 0 bC rfl rfl rfl) av av rfl (aa (aa ar)) (by kernel_rfl) rfl ?_
 refine v_many (js := [5, 9]) (by kernel_rfl) rfl ?_
 refine wrv_cons (i := 5) rfl rfl ?_ ?_
 refine aq (dS Tryz.underlying143 (cH Tryz.underlying26) bL rfl rfl (fun w hw => hw.own _ (List.mem_of_getElem? (i := 5) rfl))) rfl rfl ?_
 refine ae ?_
 refine cR av ?_
 refine wv_as (t := 29) (.tuple #[.agg (gI ((co hm (aX n)).getD cV)).toArray, .bool (co hm (aX n)).isSome]) rfl fF ?_
 refine bk (i := 6) rfl ah (aj rfl) av av rfl (aa (aa ar)) (by kernel_rfl) rfl ?_
 refine bk (i := 7) rfl ah (aI rfl rfl) av av rfl (aa (aa ar)) (by kernel_rfl) rfl ?_
 refine bk (i := 8) rfl ah (aI rfl rfl) av av rfl (aa (aa ar)) (by kernel_rfl) rfl ?_
 refine wv_splitb (t := 31) rfl (fun h6_8 => ?_) (fun h6_8 => ?_)
 refine dZ (i := 9) rfl (by kernel_rfl) rfl ?_
 refine br bL rfl rfl (fun b6 => ?_)
 refine ae ?_
 refine cR (cr 1) ?_
 refine dZ (i := 10) rfl (by kernel_rfl) rfl ?_
 refine aW bL rfl rfl rfl .z rfl rfl rfl rfl ?_
 refine ae ?_
 refine cR (cr 1) ?_
 refine bk (i := 11) rfl ah (ai rfl) (cr 1) av rfl (aa (aa ar)) (by kernel_rfl) rfl ?_
 refine gc (by kernel_rfl) ?_
 refine ak ?_
 refine ap ?_
 refine ab ?_
 refine aq (aj rfl) rfl rfl ?_
 refine ae ?_
 refine ak ?_
 refine aA rfl ?_
 refine ap ?_
 refine ab ?_
 refine aq (aF dy rfl) rfl rfl ?_
 refine aq (aM 0 aO rfl rfl rfl rfl) rfl rfl ?_
 refine aW aO rfl rfl rfl (.s (.s (.s (.z)))) rfl rfl rfl rfl ?_
 refine aW d2 rfl rfl rfl (.s (.s (.z))) rfl rfl rfl rfl ?_
 refine ae ?_
 refine ak ?_
 refine aJ ?_
 refine aC ?_
 refine fp ?_
 refine ef (rs := [.cell 4 29, .cell 5 40]) rfl (bG 3 aO rfl rfl rfl rfl (eH 2 d2 rfl rfl rfl bW)) (fun w hw => ?_)
 obtain ⟨h1, h2, h3⟩ := (hw.weak (.cons _ (.cons _ (.cons _ (.cons _ (.cons _ (.cons _ (.cons_cons _ (.cons_cons _ .slnil)))))))) (fun s hs => hs)).f1.f1.two.uc
 focus first
   | (have hE := dA (v := v) (hm := hm) (am := am) h3_1
      rw [hE]
      exact ⟨(), rfl, h1, h2, h3⟩)
   | (have hE := cX (v := v) (am := am) h3_1 h6_8
      rw [hE]
      exact ⟨(), rfl, h1, h2, h3⟩)
   | (have hE := cK (am := am) h3_1 h6_8 h9_2
      rw [hE]
      exact ⟨(), rfl, h1, h2, h3⟩)
   | (have hE := cn (am := am) h3_1 h6_8 h9_2 (show bQ v am n = none from hpf)
      rw [hE]
      exact ⟨(), rfl, h1, h2, h3⟩)
   | (have hq : bQ v am n = g := by
        rw [bQ, hxs, List.find?_append, ← hq9]
        cases g with
        | none => cases hqs
        | some y => rfl
      have hE := cn (am := am) h3_1 h6_8 h9_2 hq
      rw [hqs, if_pos rfl] at hE
      rw [hE]
      exact ⟨(), rfl, h1, h2, h3⟩)
   | (trace_state; fail)
 refine dZ (i := 9) rfl (by kernel_rfl) rfl ?_
 refine br bL rfl rfl (fun b7 => ?_)
 refine ae ?_
 refine cR (cr 1) ?_
 refine dZ (i := 10) rfl (by kernel_rfl) rfl ?_
 refine aW bL rfl rfl rfl .z rfl rfl rfl rfl ?_
 refine ae ?_
 refine cR (cr 1) ?_
 refine bk (i := 11) rfl ah (ai rfl) (cr 1) av rfl (aa (aa ar)) (by kernel_rfl) rfl ?_
 refine gc (by kernel_rfl) ?_
 refine ak ?_
 refine ap ?_
 refine ab ?_
 refine aq (aj rfl) rfl rfl ?_
 refine ae ?_
 refine ak ?_
 refine ay rfl ?_
 refine aH ?_
 refine ak ?_
 refine ap ?_
 refine ap ?_
 refine ab ?_
 refine aq (aQ 5 eU rfl rfl rfl) rfl rfl ?_
 refine bh rfl ent_35 rfl (c_vFree v hm hv hml) (fun w hw => (aP (ce 0 rfl hw) (aP (eu 6 rfl hw) a8))) ?_
 refine aq (fc rfl rfl) rfl rfl ?_
 refine aG (t := 37) rfl (fun h9_2 => ?_) (fun h9_2 => ?_)
 refine ae ?_
 refine ak ?_
 refine aA rfl ?_
 refine ap ?_
 refine ab ?_
 refine aq (cc rfl (fu)) rfl rfl ?_
 refine aW aO rfl rfl rfl (.s (.s (.s (.z)))) rfl rfl rfl rfl ?_
 refine aW d2 rfl rfl rfl (.s (.s (.z))) rfl rfl rfl rfl ?_
 refine ae ?_
 refine ak ?_
 refine aJ ?_
 refine aC ?_
 refine fp ?_
 refine ef (rs := [.cell 4 29, .cell 5 40]) rfl (bG 3 aO rfl rfl rfl rfl (eH 2 d2 rfl rfl rfl bW)) (fun w hw => ?_)
 obtain ⟨h1, h2, h3⟩ := (hw.weak (.cons _ (.cons _ (.cons _ (.cons _ (.cons _ (.cons _ (.cons_cons _ (.cons_cons _ .slnil)))))))) (fun s hs => hs)).f1.f1.two.uc
 focus first
   | (have hE := dA (v := v) (hm := hm) (am := am) h3_1
      rw [hE]
      exact ⟨(), rfl, h1, h2, h3⟩)
   | (have hE := cX (v := v) (am := am) h3_1 h6_8
      rw [hE]
      exact ⟨(), rfl, h1, h2, h3⟩)
   | (have hE := cK (am := am) h3_1 h6_8 h9_2
      rw [hE]
      exact ⟨(), rfl, h1, h2, h3⟩)
   | (have hE := cn (am := am) h3_1 h6_8 h9_2 (show bQ v am n = none from hpf)
      rw [hE]
      exact ⟨(), rfl, h1, h2, h3⟩)
   | (have hq : bQ v am n = g := by
        rw [bQ, hxs, List.find?_append, ← hq9]
        cases g with
        | none => cases hqs
        | some y => rfl
      have hE := cn (am := am) h3_1 h6_8 h9_2 hq
      rw [hqs, if_pos rfl] at hE
      rw [hE]
      exact ⟨(), rfl, h1, h2, h3⟩)
   | (trace_state; fail)
 refine ae ?_
 refine ak ?_
 refine ay rfl ?_
 refine aH ?_
 refine ak ?_
 refine ap ?_
 refine ap ?_
 have hsl := d6 v.rg
 refine w_drawV 8 mixed ?_
 refine bk (i := 0) rfl ah (aQ 4 bC rfl rfl rfl) av av rfl (aa (aa ar)) (by kernel_rfl) rfl ?_
 refine bk (i := 1) rfl ah (aQ 5 eU rfl rfl rfl) av av rfl (aa (aa ar)) (by kernel_rfl) rfl ?_
 refine bk (i := 2) rfl ah (bg rfl) av av rfl (aa (aa ar)) (by kernel_rfl) rfl ?_
 refine bk (i := 3) rfl ah (aF gq rfl) av av rfl (aa (aa ar)) (by kernel_rfl) rfl ?_
 refine bk (i := 4) rfl ah (aF eG rfl) av av rfl (aa (aa ar)) (by kernel_rfl) rfl ?_
 refine bk (i := 5) rfl ah (dU 0 ck rfl rfl rfl rfl) av av rfl (aa (aa ar)) (by kernel_rfl) rfl ?_
 refine dZ (i := 6) rfl (by kernel_rfl) rfl ?_
 refine aV rfl ent_97 (c_rSize v.rg hv.rg.lo.1) rfl ?_
 refine ae ?_
 refine cR av ?_
 refine dZ (i := 7) rfl (by kernel_rfl) rfl ?_
 refine o_callr2 rfl ent_96 rfl (ik n (bD v.rg)) (fun w hw => a8) (fun ⟨p7, q7⟩ => ?_)
 refine ae ?_
 refine cR (cr 2) ?_
 refine wv_heap (fun w h => h.freeze.freeze) ?_
 refine gc (by kernel_rfl) ?_
 refine ak ?_
 refine aR ?_
 refine dp (fun w h => h.weak (.cons _ (.cons_cons _ (.cons_cons _ (.cons_cons _ (.cons_cons _ (.cons_cons _ (.cons_cons _ (.cons_cons _ .slnil)))))))) (fun s hs => hs)) ?_
 refine w_range (σ := Option Int) (fun pre g => g = none ∧ pre.find? (fun i => d8 v.res am (atR v.rg i).1) = none) (fun c pre g => c = .ret ∧ g = pre.find? (fun i => d8 v.res am (atR v.rg i).1) ∧ g.isSome = true) (fun g => [Ch.row b5 [.string (ba (aX n))] 26, Ch.row b4 [.int .i64 0] 40, Ch.row b3 (dW (adO v g)) 29, Ch.row b2 [.string (ba n)] 26, Ch.row b1 [.pointer (some ⟨v.b, 0, none⟩)] 68, Ch.mp v.rh cB cT (hmO v hm n g), Ch.mp v.ra f8 cB (amO v am n g)]) (none) rfl rfl ent_164 (gM n (bD v.rg) p7 q7 hn (by omega) (by omega)) (List.forall_mem_cons.2 ⟨.head _, List.forall_mem_cons.2 ⟨.tail _ (.head _), nofun⟩⟩) rfl (fun _ => rfl) (⟨rfl, rfl⟩) rfl (fun pre e post g hxs hI lr D r hr okb wb => ?_) (fun g D0 hI => ?_) (fun c pre post g D0 hxs hI => ?_)
 obtain ⟨rfl, hpf⟩ := hI
 have her := gy (n := n) (slots := bD v.rg) (e := e) (by rw [hxs]; simp)
 refine ab ?_
 refine aq (ai rfl) rfl rfl ?_
 refine ae ?_
 refine gD rfl hr .z ?_
 refine aR ?_
 refine ap ?_
 refine ab ?_
 refine aq (aQ 6 eU rfl rfl rfl) rfl rfl ?_
 refine aq (bg rfl) rfl rfl ?_
 refine aq (aF gq rfl) rfl rfl ?_
 refine aq (aF eG rfl) rfl rfl ?_
 refine aq (dU 2 ck rfl rfl rfl rfl) rfl rfl ?_
 refine aq (aj rfl) rfl rfl ?_
 refine bh rfl ent_98 rfl (c_rAt v.rg e hv.rg (by omega)) (fun w hw => a8) ?_
 refine aq (aj rfl) rfl rfl ?_
 refine aq (aI rfl rfl) rfl rfl ?_
 refine aq (aI rfl rfl) rfl rfl ?_
 refine br aO rfl rfl (fun b9 => ?_)
 refine aW aO rfl rfl rfl .z rfl rfl rfl rfl ?_
 refine aq (ai rfl) rfl rfl ?_
 refine ae ?_
 refine ak ?_
 refine ap ?_
 refine ab ?_
 refine aq (aQ 7 eU rfl rfl rfl) rfl rfl ?_
 refine aq (aM 0 aO rfl rfl rfl rfl) rfl rfl ?_
 refine bh rfl ent_99 rfl (c_vfree v am (atR v.rg e).1 hv (atR_lo _ _)) (fun w hw => (aP (ce 2 rfl hw) (aP (ce 3 rfl hw) (aP (eu 9 rfl hw) a8)))) ?_
 refine bi (t := 60) rfl (fun h14_2 => ?_) (fun h14_2 => ?_)
 refine ae ?_
 refine ak ?_
 refine aA rfl ?_
 refine ap ?_
 refine w_drawVA 20 mixed (fun w h => ((h.anymp (.s (.s (.s (.s (.s (.s (.s (.s (.z)))))))))).anymp (.s (.s (.s (.s (.s (.s (.s (.s (.s (.z)))))))))))) ?_
 refine bk (i := 0) rfl ah (aQ 7 eU rfl rfl rfl) (fun w h => ((h.anymp (.s (.s (.s (.s (.s (.s (.s (.s (.z)))))))))).anymp (.s (.s (.s (.s (.s (.s (.s (.s (.s (.z)))))))))))) av rfl (aa (ao cF)) (by kernel_rfl) rfl ?_
 refine bk (i := 1) rfl ah (bg rfl) (fun w h => ((h.anymp (.s (.s (.s (.s (.s (.s (.s (.s (.z)))))))))).anymp (.s (.s (.s (.s (.s (.s (.s (.s (.s (.z)))))))))))) av rfl (aa (ao cF)) (by kernel_rfl) rfl ?_
 refine bk (i := 2) rfl ah (aF dw rfl) (fun w h => ((h.anymp (.s (.s (.s (.s (.s (.s (.s (.s (.z)))))))))).anymp (.s (.s (.s (.s (.s (.s (.s (.s (.s (.z)))))))))))) av rfl (aa (ao cF)) (by kernel_rfl) rfl ?_
 refine bk (i := 3) rfl ah (bO 2 ek rfl rfl rfl) (fun w h => ((h.anymp (.s (.s (.s (.s (.s (.s (.s (.s (.z)))))))))).anymp (.s (.s (.s (.s (.s (.s (.s (.s (.s (.z)))))))))))) av rfl (aa (ao cF)) (by kernel_rfl) rfl ?_
 refine bk (i := 4) rfl ah (aQ 3 bC rfl rfl rfl) (fun w h => ((h.anymp (.s (.s (.s (.s (.s (.s (.s (.s (.z)))))))))).anymp (.s (.s (.s (.s (.s (.s (.s (.s (.s (.z)))))))))))) av rfl (aa (ao cF)) (by kernel_rfl) rfl ?_
 refine bk (i := 5) rfl ah (aQ 7 eU rfl rfl rfl) (fun w h => ((h.anymp (.s (.s (.s (.s (.s (.s (.s (.s (.z)))))))))).anymp (.s (.s (.s (.s (.s (.s (.s (.s (.s (.z)))))))))))) av rfl (aa (ao cF)) (by kernel_rfl) rfl ?_
 refine bk (i := 6) rfl ah (bg rfl) (fun w h => ((h.anymp (.s (.s (.s (.s (.s (.s (.s (.s (.z)))))))))).anymp (.s (.s (.s (.s (.s (.s (.s (.s (.s (.z)))))))))))) av rfl (aa (ao cF)) (by kernel_rfl) rfl ?_
 refine bk (i := 7) rfl ah (aF gg rfl) (fun w h => ((h.anymp (.s (.s (.s (.s (.s (.s (.s (.s (.z)))))))))).anymp (.s (.s (.s (.s (.s (.s (.s (.s (.s (.z)))))))))))) av rfl (aa (ao cF)) (by kernel_rfl) rfl ?_
 refine bk (i := 8) rfl ah (bO 2 ty_144 rfl rfl rfl) (fun w h => ((h.anymp (.s (.s (.s (.s (.s (.s (.s (.s (.z)))))))))).anymp (.s (.s (.s (.s (.s (.s (.s (.s (.s (.z)))))))))))) av rfl (aa (ao cF)) (by kernel_rfl) rfl ?_
 refine bk (i := 9) rfl ah (aM 0 aO rfl rfl rfl rfl) (fun w h => ((h.anymp (.s (.s (.s (.s (.s (.s (.s (.s (.z)))))))))).anymp (.s (.s (.s (.s (.s (.s (.s (.s (.s (.z)))))))))))) av rfl (aa (ao cF)) (by kernel_rfl) rfl ?_
 refine bk (i := 10) rfl ah (aQ 6 bC rfl rfl rfl) (fun w h => ((h.anymp (.s (.s (.s (.s (.s (.s (.s (.s (.z)))))))))).anymp (.s (.s (.s (.s (.s (.s (.s (.s (.s (.z)))))))))))) av rfl (aa (ao cF)) (by kernel_rfl) rfl ?_
 refine bk (i := 11) rfl ah (aM 0 aO rfl rfl rfl rfl) (fun w h => ((h.anymp (.s (.s (.s (.s (.s (.s (.s (.s (.z)))))))))).anymp (.s (.s (.s (.s (.s (.s (.s (.s (.s (.z)))))))))))) av rfl (aa (ao cF)) (by kernel_rfl) rfl ?_
 refine bk (i := 12) rfl ah (cc rfl (bu_46_0_1 _ _ _ _)) (fun w h => ((h.anymp (.s (.s (.s (.s (.s (.s (.s (.s (.z)))))))))).anymp (.s (.s (.s (.s (.s (.s (.s (.s (.s (.z)))))))))))) av rfl (aa (ao cF)) (by kernel_rfl) rfl ?_
 refine bk (i := 13) rfl ah (aQ 3 bC rfl rfl rfl) (fun w h => ((h.anymp (.s (.s (.s (.s (.s (.s (.s (.s (.z)))))))))).anymp (.s (.s (.s (.s (.s (.s (.s (.s (.s (.z)))))))))))) av rfl (aa (ao cF)) (by kernel_rfl) rfl ?_
 refine dZ (i := 14) rfl (by kernel_rfl) rfl ?_
 refine hX (encK := cB) (encV := cT) Tryz.underlying143 (cH Tryz.underlying26) bL rfl rfl (fX h6_8) (fun st => (.s (.s (.s (.s (.s (.s (.s (.s (.z)))))))))) rfl (fun st9 => ?_)
 refine ae ?_
 refine cR (fun w h => ((h.anymq (v0 := cV) rfl (.s (.s (.s (.s (.s (.s (.s (.s (.z)))))))))).anymp (.s (.s (.s (.s (.s (.s (.s (.s (.s (.z)))))))))))) ?_
 refine bk (i := 15) rfl ah (aI rfl rfl) (fun w h => ((h.anymq (v0 := cV) rfl (.s (.s (.s (.s (.s (.s (.s (.s (.z)))))))))).anymp (.s (.s (.s (.s (.s (.s (.s (.s (.s (.z)))))))))))) av rfl (aa (ao cF)) (by kernel_rfl) rfl ?_
 refine dZ (i := 16) rfl (by kernel_rfl) rfl ?_
 refine o_entSt (encK := cB) (encV := cT) (v := (⟨n, (atR v.rg e).1⟩ : Hd)) rfl rfl rfl (.s (.s (.s (.s (.s (.s (.s (.s (.z))))))))) ?_
 refine ae ?_
 refine cR (fun w h => ((h.anymp (.s (.s (.s (.s (.s (.s (.s (.s (.z)))))))))).anymp (.s (.s (.s (.s (.s (.s (.s (.s (.s (.z)))))))))))) ?_
 refine dZ (i := 17) rfl (by kernel_rfl) rfl ?_
 refine hX (encK := f8) (encV := cB) Tryz.underlying144 iC bC rfl rfl (gU h14_2) (fun st => (.s (.s (.s (.s (.s (.s (.s (.s (.s (.z))))))))))) rfl (fun st10 => ?_)
 refine ae ?_
 refine cR (fun w h => ((h.anymp (.s (.s (.s (.s (.s (.s (.s (.s (.z)))))))))).anymq (v0 := ([] : aU)) rfl (.s (.s (.s (.s (.s (.s (.s (.s (.s (.z)))))))))))) ?_
 refine bk (i := 18) rfl ah (aI rfl rfl) (fun w h => ((h.anymp (.s (.s (.s (.s (.s (.s (.s (.s (.z)))))))))).anymq (v0 := ([] : aU)) rfl (.s (.s (.s (.s (.s (.s (.s (.s (.s (.z)))))))))))) av rfl (aa (ao cF)) (by kernel_rfl) rfl ?_
 refine dZ (i := 19) rfl (by kernel_rfl) rfl ?_
 refine o_entSt (encK := f8) (encV := cB) (v := (aX n)) rfl rfl rfl (.s (.s (.s (.s (.s (.s (.s (.s (.s (.z)))))))))) ?_
 refine ae ?_
 refine cR (fun w h => ((h.anymp (.s (.s (.s (.s (.s (.s (.s (.s (.z)))))))))).anymp (.s (.s (.s (.s (.s (.s (.s (.s (.s (.z)))))))))))) ?_
 refine gc (by kernel_rfl) ?_
 refine ak ?_
 refine ap ?_
 refine ab ?_
 refine aq (aM 0 aO rfl rfl rfl rfl) rfl rfl ?_
 refine aW aO rfl rfl rfl (.s (.s (.s (.s (.s (.z)))))) rfl rfl rfl rfl ?_
 refine aW d2 rfl rfl rfl (.s (.s (.s (.s (.z))))) rfl rfl rfl rfl ?_
 refine ae ?_
 refine ak ?_
 refine aJ ?_
 refine aT ?_
 refine e_rret ((some e)) ?_ (cr 1)
 exact ⟨rfl, by rw [List.find?_append, hpf, List.find?_cons_of_pos (p := (fun i => d8 v.res am (atR v.rg i).1)) h14_2]; rfl, rfl⟩
 refine ae ?_
 refine ak ?_
 refine ay rfl ?_
 refine aH ?_
 refine bo ?_
 refine g5 (none) ?_ (cr 1)
 exact ⟨rfl, by rw [List.find?_append, hpf, List.find?_cons_of_neg (by rw [h14_2]; decide)]; rfl⟩
 obtain ⟨rfl, hpf⟩ := hI
 refine bo ?_
 refine ak ?_
 refine ap ?_
 refine ab ?_
 refine aq (cc rfl (fu)) rfl rfl ?_
 refine aW aO rfl rfl rfl (.s (.s (.s (.z)))) rfl rfl rfl rfl ?_
 refine aW d2 rfl rfl rfl (.s (.s (.z))) rfl rfl rfl rfl ?_
 refine ae ?_
 refine ak ?_
 refine aJ ?_
 refine fp ?_
 refine eX .z ?_
 refine ef (rs := [.cell 4 29, .cell 5 40]) rfl (bG 3 aO rfl rfl rfl rfl (eH 2 d2 rfl rfl rfl bW)) (fun w hw => ?_)
 obtain ⟨h1, h2, h3⟩ := (hw.weak (.cons _ (.cons _ (.cons _ (.cons _ (.cons _ (.cons _ (.cons_cons _ (.cons_cons _ .slnil)))))))) (fun s hs => hs)).f1.f1.two.uc
 focus first
   | (have hE := dA (v := v) (hm := hm) (am := am) h3_1
      rw [hE]
      exact ⟨(), rfl, h1, h2, h3⟩)
   | (have hE := cX (v := v) (am := am) h3_1 h6_8
      rw [hE]
      exact ⟨(), rfl, h1, h2, h3⟩)
   | (have hE := cK (am := am) h3_1 h6_8 h9_2
      rw [hE]
      exact ⟨(), rfl, h1, h2, h3⟩)
   | (have hE := cn (am := am) h3_1 h6_8 h9_2 (show bQ v am n = none from hpf)
      rw [hE]
      exact ⟨(), rfl, h1, h2, h3⟩)
   | (have hq : bQ v am n = g := by
        rw [bQ, hxs, List.find?_append, ← hq9]
        cases g with
        | none => cases hqs
        | some y => rfl
      have hE := cn (am := am) h3_1 h6_8 h9_2 hq
      rw [hqs, if_pos rfl] at hE
      rw [hE]
      exact ⟨(), rfl, h1, h2, h3⟩)
   | (trace_state; fail)
 obtain ⟨rfl, hq9, hqs⟩ := hI
 refine aJ ?_
 refine aT ?_
 refine aC ?_
 refine fp ?_
 refine eX .z ?_
 refine ef (rs := [.cell 4 29, .cell 5 40]) rfl (bG 3 aO rfl rfl rfl rfl (eH 2 d2 rfl rfl rfl bW)) (fun w hw => ?_)
 obtain ⟨h1, h2, h3⟩ := (hw.weak (.cons _ (.cons _ (.cons _ (.cons _ (.cons _ (.cons _ (.cons_cons _ (.cons_cons _ .slnil)))))))) (fun s hs => hs)).f1.f1.two.uc
 focus first
   | (have hE := dA (v := v) (hm := hm) (am := am) h3_1
      rw [hE]
      exact ⟨(), rfl, h1, h2, h3⟩)
   | (have hE := cX (v := v) (am := am) h3_1 h6_8
      rw [hE]
      exact ⟨(), rfl, h1, h2, h3⟩)
   | (have hE := cK (am := am) h3_1 h6_8 h9_2
      rw [hE]
      exact ⟨(), rfl, h1, h2, h3⟩)
   | (have hE := cn (am := am) h3_1 h6_8 h9_2 (show bQ v am n = none from hpf)
      rw [hE]
      exact ⟨(), rfl, h1, h2, h3⟩)
   | (have hq : bQ v am n = g := by
        rw [bQ, hxs, List.find?_append, ← hq9]
        cases g with
        | none => cases hqs
        | some y => rfl
      have hE := cn (am := am) h3_1 h6_8 h9_2 hq
      rw [hqs, if_pos rfl] at hE
      rw [hE]
      exact ⟨(), rfl, h1, h2, h3⟩)
   | (trace_state; fail)
 refine wrv_cons (i := 9) rfl rfl ?_ ?_
 refine br bL rfl rfl (fun b12 => ?_)
 refine ae ?_
 refine cR (cr 1) ?_
 refine dZ (i := 5) rfl (by kernel_rfl) rfl ?_
 refine aq (dS Tryz.underlying143 (cH Tryz.underlying26) bL rfl rfl (fun w hw => hw.own _ (List.mem_of_getElem? (i := 6) rfl))) rfl rfl ?_
 refine ae ?_
 refine cR (cr 1) ?_
 refine wv_as (t := 29) (.tuple #[.agg (gI ((co hm (aX n)).getD cV)).toArray, .bool (co hm (aX n)).isSome]) rfl fF ?_
 refine bk (i := 6) rfl ah (aj rfl) (cr 1) av rfl (aa (aa ar)) (by kernel_rfl) rfl ?_
 refine bk (i := 7) rfl ah (aI rfl rfl) (cr 1) av rfl (aa (aa ar)) (by kernel_rfl) rfl ?_
 refine bk (i := 8) rfl ah (aI rfl rfl) (cr 1) av rfl (aa (aa ar)) (by kernel_rfl) rfl ?_
 refine wv_splitb (t := 31) rfl (fun h6_8 => ?_) (fun h6_8 => ?_)
 refine dZ (i := 10) rfl (by kernel_rfl) rfl ?_
 refine aW bL rfl rfl rfl .z rfl rfl rfl rfl ?_
 refine ae ?_
 refine cR (cr 1) ?_
 refine bk (i := 11) rfl ah (ai rfl) (cr 1) av rfl (aa (aa ar)) (by kernel_rfl) rfl ?_
 refine gc (by kernel_rfl) ?_
 refine ak ?_
 refine ap ?_
 refine ab ?_
 refine aq (aj rfl) rfl rfl ?_
 refine ae ?_
 refine ak ?_
 refine aA rfl ?_
 refine ap ?_
 refine ab ?_
 refine aq (aF dy rfl) rfl rfl ?_
 refine aq (aM 0 aO rfl rfl rfl rfl) rfl rfl ?_
 refine aW aO rfl rfl rfl (.s (.s (.s (.z)))) rfl rfl rfl rfl ?_
 refine aW d2 rfl rfl rfl (.s (.s (.z))) rfl rfl rfl rfl ?_
 refine ae ?_
 refine ak ?_
 refine aJ ?_
 refine aC ?_
 refine fp ?_
 refine ef (rs := [.cell 4 29, .cell 5 40]) rfl (bG 3 aO rfl rfl rfl rfl (eH 2 d2 rfl rfl rfl bW)) (fun w hw => ?_)
 obtain ⟨h1, h2, h3⟩ := (hw.weak (.cons _ (.cons _ (.cons _ (.cons _ (.cons _ (.cons _ (.cons_cons _ (.cons_cons _ .slnil)))))))) (fun s hs => hs)).f1.f1.two.uc
 focus first
   | (have hE := dA (v := v) (hm := hm) (am := am) h3_1
      rw [hE]
      exact ⟨(), rfl, h1, h2, h3⟩)
   | (have hE := cX (v := v) (am := am) h3_1 h6_8
      rw [hE]
      exact ⟨(), rfl, h1, h2, h3⟩)
   | (have hE := cK (am := am) h3_1 h6_8 h9_2
      rw [hE]
      exact ⟨(), rfl, h1, h2, h3⟩)
   | (have hE := cn (am := am) h3_1 h6_8 h9_2 (show bQ v am n = none from hpf)
      rw [hE]
      exact ⟨(), rfl, h1, h2, h3⟩)
   | (have hq : bQ v am n = g := by
        rw [bQ, hxs, List.find?_append, ← hq9]
        cases g with
        | none => cases hqs
        | some y => rfl
      have hE := cn (am := am) h3_1 h6_8 h9_2 hq
      rw [hqs, if_pos rfl] at hE
      rw [hE]
      exact ⟨(), rfl, h1, h2, h3⟩)
   | (trace_state; fail)
 refine dZ (i := 10) rfl (by kernel_rfl) rfl ?_
 refine aW bL rfl rfl rfl .z rfl rfl rfl rfl ?_
 refine ae ?_
 refine cR (cr 1) ?_
 refine bk (i := 11) rfl ah (ai rfl) (cr 1) av rfl (aa (aa ar)) (by kernel_rfl) rfl ?_
 refine gc (by kernel_rfl) ?_
 refine ak ?_
 refine ap ?_
 refine ab ?_
 refine aq (aj rfl) rfl rfl ?_
 refine ae ?_
 refine ak ?_
 refine ay rfl ?_
 refine aH ?_
 refine ak ?_
 refine ap ?_
 refine ap ?_
 refine ab ?_
 refine aq (aQ 5 eU rfl rfl rfl) rfl rfl ?_
 refine bh rfl ent_35 rfl (c_vFree v hm hv hml) (fun w hw => (aP (ce 0 rfl hw) (aP (eu 6 rfl hw) a8))) ?_
 refine aq (fc rfl rfl) rfl rfl ?_
 refine aG (t := 37) rfl (fun h9_2 => ?_) (fun h9_2 => ?_)
 refine ae ?_
 refine ak ?_
 refine aA rfl ?_
 refine ap ?_
 refine ab ?_
 refine aq (cc rfl (fu)) rfl rfl ?_
 refine aW aO rfl rfl rfl (.s (.s (.s (.z)))) rfl rfl rfl rfl ?_
 refine aW d2 rfl rfl rfl (.s (.s (.z))) rfl rfl rfl rfl ?_
 refine ae ?_
 refine ak ?_
 refine aJ ?_
 refine aC ?_
 refine fp ?_
 refine ef (rs := [.cell 4 29, .cell 5 40]) rfl (bG 3 aO rfl rfl rfl rfl (eH 2 d2 rfl rfl rfl bW)) (fun w hw => ?_)
 obtain ⟨h1, h2, h3⟩ := (hw.weak (.cons _ (.cons _ (.cons _ (.cons _ (.cons _ (.cons _ (.cons_cons _ (.cons_cons _ .slnil)))))))) (fun s hs => hs)).f1.f1.two.uc
 focus first
   | (have hE := dA (v := v) (hm := hm) (am := am) h3_1
      rw [hE]
      exact ⟨(), rfl, h1, h2, h3⟩)
   | (have hE := cX (v := v) (am := am) h3_1 h6_8
      rw [hE]
      exact ⟨(), rfl, h1, h2, h3⟩)
   | (have hE := cK (am := am) h3_1 h6_8 h9_2
      rw [hE]
      exact ⟨(), rfl, h1, h2, h3⟩)
   | (have hE := cn (am := am) h3_1 h6_8 h9_2 (show bQ v am n = none from hpf)
      rw [hE]
      exact ⟨(), rfl, h1, h2, h3⟩)
   | (have hq : bQ v am n = g := by
        rw [bQ, hxs, List.find?_append, ← hq9]
        cases g with
        | none => cases hqs
        | some y => rfl
      have hE := cn (am := am) h3_1 h6_8 h9_2 hq
      rw [hqs, if_pos rfl] at hE
      rw [hE]
      exact ⟨(), rfl, h1, h2, h3⟩)
   | (trace_state; fail)
 refine ae ?_
 refine ak ?_
 refine ay rfl ?_
 refine aH ?_
 refine ak ?_
 refine ap ?_
 refine ap ?_
 have hsl := d6 v.rg
 refine w_drawV 8 mixed ?_
 refine bk (i := 0) rfl ah (aQ 4 bC rfl rfl rfl) av av rfl (aa (aa ar)) (by kernel_rfl) rfl ?_
 refine bk (i := 1) rfl ah (aQ 5 eU rfl rfl rfl) av av rfl (aa (aa ar)) (by kernel_rfl) rfl ?_
 refine bk (i := 2) rfl ah (bg rfl) av av rfl (aa (aa ar)) (by kernel_rfl) rfl ?_
 refine bk (i := 3) rfl ah (aF gq rfl) av av rfl (aa (aa ar)) (by kernel_rfl) rfl ?_
 refine bk (i := 4) rfl ah (aF eG rfl) av av rfl (aa (aa ar)) (by kernel_rfl) rfl ?_
 refine bk (i := 5) rfl ah (dU 0 ck rfl rfl rfl rfl) av av rfl (aa (aa ar)) (by kernel_rfl) rfl ?_
 refine dZ (i := 6) rfl (by kernel_rfl) rfl ?_
 refine aV rfl ent_97 (c_rSize v.rg hv.rg.lo.1) rfl ?_
 refine ae ?_
 refine cR av ?_
 refine dZ (i := 7) rfl (by kernel_rfl) rfl ?_
 refine o_callr2 rfl ent_96 rfl (ik n (bD v.rg)) (fun w hw => a8) (fun ⟨p12, q12⟩ => ?_)
 refine ae ?_
 refine cR (cr 2) ?_
 refine wv_heap (fun w h => h.freeze.freeze) ?_
 refine gc (by kernel_rfl) ?_
 refine ak ?_
 refine aR ?_
 refine dp (fun w h => h.weak (.cons _ (.cons_cons _ (.cons_cons _ (.cons_cons _ (.cons_cons _ (.cons_cons _ (.cons_cons _ (.cons_cons _ .slnil)))))))) (fun s hs => hs)) ?_
 refine w_range (σ := Option Int) (fun pre g => g = none ∧ pre.find? (fun i => d8 v.res am (atR v.rg i).1) = none) (fun c pre g => c = .ret ∧ g = pre.find? (fun i => d8 v.res am (atR v.rg i).1) ∧ g.isSome = true) (fun g => [Ch.row b5 [.string (ba (aX n))] 26, Ch.row b4 [.int .i64 0] 40, Ch.row b3 (dW (adO v g)) 29, Ch.row b2 [.string (ba n)] 26, Ch.row b1 [.pointer (some ⟨v.b, 0, none⟩)] 68, Ch.mp v.rh cB cT (hmO v hm n g), Ch.mp v.ra f8 cB (amO v am n g)]) (none) rfl rfl ent_164 (gM n (bD v.rg) p12 q12 hn (by omega) (by omega)) (List.forall_mem_cons.2 ⟨.head _, List.forall_mem_cons.2 ⟨.tail _ (.head _), nofun⟩⟩) rfl (fun _ => rfl) (⟨rfl, rfl⟩) rfl (fun pre e post g hxs hI lr D r hr okb wb => ?_) (fun g D0 hI => ?_) (fun c pre post g D0 hxs hI => ?_)
 obtain ⟨rfl, hpf⟩ := hI
 have her := gy (n := n) (slots := bD v.rg) (e := e) (by rw [hxs]; simp)
 refine ab ?_
 refine aq (ai rfl) rfl rfl ?_
 refine ae ?_
 refine gD rfl hr .z ?_
 refine aR ?_
 refine ap ?_
 refine ab ?_
 refine aq (aQ 6 eU rfl rfl rfl) rfl rfl ?_
 refine aq (bg rfl) rfl rfl ?_
 refine aq (aF gq rfl) rfl rfl ?_
 refine aq (aF eG rfl) rfl rfl ?_
 refine aq (dU 2 ck rfl rfl rfl rfl) rfl rfl ?_
 refine aq (aj rfl) rfl rfl ?_
 refine bh rfl ent_98 rfl (c_rAt v.rg e hv.rg (by omega)) (fun w hw => a8) ?_
 refine aq (aj rfl) rfl rfl ?_
 refine aq (aI rfl rfl) rfl rfl ?_
 refine aq (aI rfl rfl) rfl rfl ?_
 refine br aO rfl rfl (fun b14 => ?_)
 refine aW aO rfl rfl rfl .z rfl rfl rfl rfl ?_
 refine aq (ai rfl) rfl rfl ?_
 refine ae ?_
 refine ak ?_
 refine ap ?_
 refine ab ?_
 refine aq (aQ 7 eU rfl rfl rfl) rfl rfl ?_
 refine aq (aM 0 aO rfl rfl rfl rfl) rfl rfl ?_
 refine bh rfl ent_99 rfl (c_vfree v am (atR v.rg e).1 hv (atR_lo _ _)) (fun w hw => (aP (ce 2 rfl hw) (aP (ce 3 rfl hw) (aP (eu 9 rfl hw) a8)))) ?_
 refine bi (t := 60) rfl (fun h14_2 => ?_) (fun h14_2 => ?_)
 refine ae ?_
 refine ak ?_
 refine aA rfl ?_
 refine ap ?_
 refine w_drawVA 20 mixed (fun w h => ((h.anymp (.s (.s (.s (.s (.s (.s (.s (.s (.z)))))))))).anymp (.s (.s (.s (.s (.s (.s (.s (.s (.s (.z)))))))))))) ?_
 refine bk (i := 0) rfl ah (aQ 7 eU rfl rfl rfl) (fun w h => ((h.anymp (.s (.s (.s (.s (.s (.s (.s (.s (.z)))))))))).anymp (.s (.s (.s (.s (.s (.s (.s (.s (.s (.z)))))))))))) av rfl (aa (ao cF)) (by kernel_rfl) rfl ?_
 refine bk (i := 1) rfl ah (bg rfl) (fun w h => ((h.anymp (.s (.s (.s (.s (.s (.s (.s (.s (.z)))))))))).anymp (.s (.s (.s (.s (.s (.s (.s (.s (.s (.z)))))))))))) av rfl (aa (ao cF)) (by kernel_rfl) rfl ?_
 refine bk (i := 2) rfl ah (aF dw rfl) (fun w h => ((h.anymp (.s (.s (.s (.s (.s (.s (.s (.s (.z)))))))))).anymp (.s (.s (.s (.s (.s (.s (.s (.s (.s (.z)))))))))))) av rfl (aa (ao cF)) (by kernel_rfl) rfl ?_
 refine bk (i := 3) rfl ah (bO 2 ek rfl rfl rfl) (fun w h => ((h.anymp (.s (.s (.s (.s (.s (.s (.s (.s (.z)))))))))).anymp (.s (.s (.s (.s (.s (.s (.s (.s (.s (.z)))))))))))) av rfl (aa (ao cF)) (by kernel_rfl) rfl ?_
 refine bk (i := 4) rfl ah (aQ 3 bC rfl rfl rfl) (fun w h => ((h.anymp (.s (.s (.s (.s (.s (.s (.s (.s (.z)))))))))).anymp (.s (.s (.s (.s (.s (.s (.s (.s (.s (.z)))))))))))) av rfl (aa (ao cF)) (by kernel_rfl) rfl ?_
 refine bk (i := 5) rfl ah (aQ 7 eU rfl rfl rfl) (fun w h => ((h.anymp (.s (.s (.s (.s (.s (.s (.s (.s (.z)))))))))).anymp (.s (.s (.s (.s (.s (.s (.s (.s (.s (.z)))))))))))) av rfl (aa (ao cF)) (by kernel_rfl) rfl ?_
 refine bk (i := 6) rfl ah (bg rfl) (fun w h => ((h.anymp (.s (.s (.s (.s (.s (.s (.s (.s (.z)))))))))).anymp (.s (.s (.s (.s (.s (.s (.s (.s (.s (.z)))))))))))) av rfl (aa (ao cF)) (by kernel_rfl) rfl ?_
 refine bk (i := 7) rfl ah (aF gg rfl) (fun w h => ((h.anymp (.s (.s (.s (.s (.s (.s (.s (.s (.z)))))))))).anymp (.s (.s (.s (.s (.s (.s (.s (.s (.s (.z)))))))))))) av rfl (aa (ao cF)) (by kernel_rfl) rfl ?_
 refine bk (i := 8) rfl ah (bO 2 ty_144 rfl rfl rfl) (fun w h => ((h.anymp (.s (.s (.s (.s (.s (.s (.s (.s (.z)))))))))).anymp (.s (.s (.s (.s (.s (.s (.s (.s (.s (.z)))))))))))) av rfl (aa (ao cF)) (by kernel_rfl) rfl ?_
 refine bk (i := 9) rfl ah (aM 0 aO rfl rfl rfl rfl) (fun w h => ((h.anymp (.s (.s (.s (.s (.s (.s (.s (.s (.z)))))))))).anymp (.s (.s (.s (.s (.s (.s (.s (.s (.s (.z)))))))))))) av rfl (aa (ao cF)) (by kernel_rfl) rfl ?_
 refine bk (i := 10) rfl ah (aQ 6 bC rfl rfl rfl) (fun w h => ((h.anymp (.s (.s (.s (.s (.s (.s (.s (.s (.z)))))))))).anymp (.s (.s (.s (.s (.s (.s (.s (.s (.s (.z)))))))))))) av rfl (aa (ao cF)) (by kernel_rfl) rfl ?_
 refine bk (i := 11) rfl ah (aM 0 aO rfl rfl rfl rfl) (fun w h => ((h.anymp (.s (.s (.s (.s (.s (.s (.s (.s (.z)))))))))).anymp (.s (.s (.s (.s (.s (.s (.s (.s (.s (.z)))))))))))) av rfl (aa (ao cF)) (by kernel_rfl) rfl ?_
 refine bk (i := 12) rfl ah (cc rfl (bu_46_0_1 _ _ _ _)) (fun w h => ((h.anymp (.s (.s (.s (.s (.s (.s (.s (.s (.z)))))))))).anymp (.s (.s (.s (.s (.s (.s (.s (.s (.s (.z)))))))))))) av rfl (aa (ao cF)) (by kernel_rfl) rfl ?_
 refine bk (i := 13) rfl ah (aQ 3 bC rfl rfl rfl) (fun w h => ((h.anymp (.s (.s (.s (.s (.s (.s (.s (.s (.z)))))))))).anymp (.s (.s (.s (.s (.s (.s (.s (.s (.s (.z)))))))))))) av rfl (aa (ao cF)) (by kernel_rfl) rfl ?_
 refine dZ (i := 14) rfl (by kernel_rfl) rfl ?_
 refine hX (encK := cB) (encV := cT) Tryz.underlying143 (cH Tryz.underlying26) bL rfl rfl (fX h6_8) (fun st => (.s (.s (.s (.s (.s (.s (.s (.s (.z)))))))))) rfl (fun st14 => ?_)
 refine ae ?_
 refine cR (fun w h => ((h.anymq (v0 := cV) rfl (.s (.s (.s (.s (.s (.s (.s (.s (.z)))))))))).anymp (.s (.s (.s (.s (.s (.s (.s (.s (.s (.z)))))))))))) ?_
 refine bk (i := 15) rfl ah (aI rfl rfl) (fun w h => ((h.anymq (v0 := cV) rfl (.s (.s (.s (.s (.s (.s (.s (.s (.z)))))))))).anymp (.s (.s (.s (.s (.s (.s (.s (.s (.s (.z)))))))))))) av rfl (aa (ao cF)) (by kernel_rfl) rfl ?_
 refine dZ (i := 16) rfl (by kernel_rfl) rfl ?_
 refine o_entSt (encK := cB) (encV := cT) (v := (⟨n, (atR v.rg e).1⟩ : Hd)) rfl rfl rfl (.s (.s (.s (.s (.s (.s (.s (.s (.z))))))))) ?_
 refine ae ?_
 refine cR (fun w h => ((h.anymp (.s (.s (.s (.s (.s (.s (.s (.s (.z)))))))))).anymp (.s (.s (.s (.s (.s (.s (.s (.s (.s (.z)))))))))))) ?_
 refine dZ (i := 17) rfl (by kernel_rfl) rfl ?_
 refine hX (encK := f8) (encV := cB) Tryz.underlying144 iC bC rfl rfl (gU h14_2) (fun st => (.s (.s (.s (.s (.s (.s (.s (.s (.s (.z))))))))))) rfl (fun st15 => ?_)
 refine ae ?_
 refine cR (fun w h => ((h.anymp (.s (.s (.s (.s (.s (.s (.s (.s (.z)))))))))).anymq (v0 := ([] : aU)) rfl (.s (.s (.s (.s (.s (.s (.s (.s (.s (.z)))))))))))) ?_
 refine bk (i := 18) rfl ah (aI rfl rfl) (fun w h => ((h.anymp (.s (.s (.s (.s (.s (.s (.s (.s (.z)))))))))).anymq (v0 := ([] : aU)) rfl (.s (.s (.s (.s (.s (.s (.s (.s (.s (.z)))))))))))) av rfl (aa (ao cF)) (by kernel_rfl) rfl ?_
 refine dZ (i := 19) rfl (by kernel_rfl) rfl ?_
 refine o_entSt (encK := f8) (encV := cB) (v := (aX n)) rfl rfl rfl (.s (.s (.s (.s (.s (.s (.s (.s (.s (.z)))))))))) ?_
 refine ae ?_
 refine cR (fun w h => ((h.anymp (.s (.s (.s (.s (.s (.s (.s (.s (.z)))))))))).anymp (.s (.s (.s (.s (.s (.s (.s (.s (.s (.z)))))))))))) ?_
 refine gc (by kernel_rfl) ?_
 refine ak ?_
 refine ap ?_
 refine ab ?_
 refine aq (aM 0 aO rfl rfl rfl rfl) rfl rfl ?_
 refine aW aO rfl rfl rfl (.s (.s (.s (.s (.s (.z)))))) rfl rfl rfl rfl ?_
 refine aW d2 rfl rfl rfl (.s (.s (.s (.s (.z))))) rfl rfl rfl rfl ?_
 refine ae ?_
 refine ak ?_
 refine aJ ?_
 refine aT ?_
 refine e_rret ((some e)) ?_ (cr 1)
 exact ⟨rfl, by rw [List.find?_append, hpf, List.find?_cons_of_pos (p := (fun i => d8 v.res am (atR v.rg i).1)) h14_2]; rfl, rfl⟩
 refine ae ?_
 refine ak ?_
 refine ay rfl ?_
 refine aH ?_
 refine bo ?_
 refine g5 (none) ?_ (cr 1)
 exact ⟨rfl, by rw [List.find?_append, hpf, List.find?_cons_of_neg (by rw [h14_2]; decide)]; rfl⟩
 obtain ⟨rfl, hpf⟩ := hI
 refine bo ?_
 refine ak ?_
 refine ap ?_
 refine ab ?_
 refine aq (cc rfl (fu)) rfl rfl ?_
 refine aW aO rfl rfl rfl (.s (.s (.s (.z)))) rfl rfl rfl rfl ?_
 refine aW d2 rfl rfl rfl (.s (.s (.z))) rfl rfl rfl rfl ?_
 refine ae ?_
 refine ak ?_
 refine aJ ?_
 refine fp ?_
 refine eX .z ?_
 refine ef (rs := [.cell 4 29, .cell 5 40]) rfl (bG 3 aO rfl rfl rfl rfl (eH 2 d2 rfl rfl rfl bW)) (fun w hw => ?_)
 obtain ⟨h1, h2, h3⟩ := (hw.weak (.cons _ (.cons _ (.cons _ (.cons _ (.cons _ (.cons _ (.cons_cons _ (.cons_cons _ .slnil)))))))) (fun s hs => hs)).f1.f1.two.uc
 focus first
   | (have hE := dA (v := v) (hm := hm) (am := am) h3_1
      rw [hE]
      exact ⟨(), rfl, h1, h2, h3⟩)
   | (have hE := cX (v := v) (am := am) h3_1 h6_8
      rw [hE]
      exact ⟨(), rfl, h1, h2, h3⟩)
   | (have hE := cK (am := am) h3_1 h6_8 h9_2
      rw [hE]
      exact ⟨(), rfl, h1, h2, h3⟩)
   | (have hE := cn (am := am) h3_1 h6_8 h9_2 (show bQ v am n = none from hpf)
      rw [hE]
      exact ⟨(), rfl, h1, h2, h3⟩)
   | (have hq : bQ v am n = g := by
        rw [bQ, hxs, List.find?_append, ← hq9]
        cases g with
        | none => cases hqs
        | some y => rfl
      have hE := cn (am := am) h3_1 h6_8 h9_2 hq
      rw [hqs, if_pos rfl] at hE
      rw [hE]
      exact ⟨(), rfl, h1, h2, h3⟩)
   | (trace_state; fail)
 obtain ⟨rfl, hq9, hqs⟩ := hI
 refine aJ ?_
 refine aT ?_
 refine aC ?_
 refine fp ?_
 refine eX .z ?_
 refine ef (rs := [.cell 4 29, .cell 5 40]) rfl (bG 3 aO rfl rfl rfl rfl (eH 2 d2 rfl rfl rfl bW)) (fun w hw => ?_)
 obtain ⟨h1, h2, h3⟩ := (hw.weak (.cons _ (.cons _ (.cons _ (.cons _ (.cons _ (.cons _ (.cons_cons _ (.cons_cons _ .slnil)))))))) (fun s hs => hs)).f1.f1.two.uc
 focus first
   | (have hE := dA (v := v) (hm := hm) (am := am) h3_1
      rw [hE]
      exact ⟨(), rfl, h1, h2, h3⟩)
   | (have hE := cX (v := v) (am := am) h3_1 h6_8
      rw [hE]
      exact ⟨(), rfl, h1, h2, h3⟩)
   | (have hE := cK (am := am) h3_1 h6_8 h9_2
      rw [hE]
      exact ⟨(), rfl, h1, h2, h3⟩)
   | (have hE := cn (am := am) h3_1 h6_8 h9_2 (show bQ v am n = none from hpf)
      rw [hE]
      exact ⟨(), rfl, h1, h2, h3⟩)
   | (have hq : bQ v am n = g := by
        rw [bQ, hxs, List.find?_append, ← hq9]
        cases g with
        | none => cases hqs
        | some y => rfl
      have hE := cn (am := am) h3_1 h6_8 h9_2 hq
      rw [hqs, if_pos rfl] at hE
      rw [hE]
      exact ⟨(), rfl, h1, h2, h3⟩)
   | (trace_state; fail)
 exact wrv_nil
 refine aq (bF rfl) rfl rfl ?_
 refine aq (ai rfl) rfl rfl ?_
 refine ae ?_
 refine ak ?_
 refine aA rfl ?_
 refine ap ?_
 refine ab ?_
 refine aq (cc rfl (fu)) rfl rfl ?_
 refine aW aO rfl rfl rfl (.s (.z)) rfl rfl rfl rfl ?_
 refine aW d2 rfl rfl rfl .z rfl rfl rfl rfl ?_
 refine ae ?_
 refine ak ?_
 refine aJ ?_
 refine aT ?_
 refine aC ?_
 refine fp ?_
 refine ef (rs := [.cell 4 29, .cell 5 40]) rfl (bG 1 aO rfl rfl rfl rfl (eH 0 d2 rfl rfl rfl bW)) (fun w hw => ?_)
 obtain ⟨h1, h2, h3⟩ := (hw.weak (.cons _ (.cons _ (.cons _ (.cons _ (.cons_cons _ (.cons_cons _ .slnil)))))) (fun s hs => hs)).f1.f1.two.uc
 focus first
   | (have hE := dA (v := v) (hm := hm) (am := am) h3_1
      rw [hE]
      exact ⟨(), rfl, h1, h2, h3⟩)
   | (have hE := cX (v := v) (am := am) h3_1 h6_8
      rw [hE]
      exact ⟨(), rfl, h1, h2, h3⟩)
   | (have hE := cK (am := am) h3_1 h6_8 h9_2
      rw [hE]
      exact ⟨(), rfl, h1, h2, h3⟩)
   | (have hE := cn (am := am) h3_1 h6_8 h9_2 (show bQ v am n = none from hpf)
      rw [hE]
      exact ⟨(), rfl, h1, h2, h3⟩)
   | (have hq : bQ v am n = g := by
        rw [bQ, hxs, List.find?_append, ← hq9]
        cases g with
        | none => cases hqs
        | some y => rfl
      have hE := cn (am := am) h3_1 h6_8 h9_2 hq
      rw [hqs, if_pos rfl] at hE
      rw [hE]
      exact ⟨(), rfl, h1, h2, h3⟩)
   | (trace_state; fail)
end Go.Proofs.YtnpdgmoeoidppaaGreat
