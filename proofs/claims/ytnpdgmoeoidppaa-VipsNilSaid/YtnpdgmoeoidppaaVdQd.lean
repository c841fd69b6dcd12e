import Derived.Test.YtnpdgmoeoidppaaVcQd
/- law 14: a pool is made; the examples; a pool that nobody made -/
namespace Go.Proofs.Ytnpdgmoeoidppaa
open Go.RowKit Go.Shelf
set_option linter.unusedVariables false
set_option linter.unusedSimpArgs false

theorem bx (x0 : Bool) (x1 : Int) (x2 : Int) (x3 : Int) (x4 : Option Addr) (x5 : Nat) (x6 : Nat) (x7 : Option Nat) (x8 : Option Nat) (x9 : Int) : Try.prog.built 113 [(0, .agg [.bool x0, .int .u64 x1, .int .u64 x2, .int .i64 x3, .slice x4 x5 x6].toArray), (1, .map x7), (2, .map x8), (3, .int .i64 x9)] = some [.bool x0, .int .u64 x1, .int .u64 x2, .int .i64 x3, .slice x4 x5 x6, .map x7, .map x8, .int .i64 x9].toArray := by kernel_rfl
theorem bu_62_2 (x0 : Int) : Try.prog.built 62 [(2, .int .u64 x0)] = some [.bool false, .int .u64 0, .int .u64 x0].toArray := by kernel_rfl
theorem bu_64_0_1 (x0 : Bool) (x1 : Int) (x2 : Int) (x3 : Int) : Try.prog.built 64 [(0, .agg [.bool x0, .int .u64 x1, .int .u64 x2].toArray), (1, .int .i64 x3)] = some [.bool x0, .int .u64 x1, .int .u64 x2, .int .i64 x3].toArray := by kernel_rfl
theorem bu_67_0 (x0 : Bool) (x1 : Int) (x2 : Int) (x3 : Int) : Try.prog.built 67 [(0, .agg [.bool x0, .int .u64 x1, .int .u64 x2, .int .i64 x3].toArray)] = some [.bool x0, .int .u64 x1, .int .u64 x2, .int .i64 x3, .slice none 0 0].toArray := by kernel_rfl
theorem ent_26 : Enters Try.prog 26 := enters_of Try.func26 (by kernel_rfl) rfl
theorem ent_27 : Enters Try.prog 27 := enters_of Try.func27 (by kernel_rfl) rfl
theorem ent_28 : Enters Try.prog 28 := enters_of Try.func28 (by kernel_rfl) rfl
theorem ent_29 : Enters Try.prog 29 := enters_of Try.func29 (by kernel_rfl) rfl
theorem ent_30 : Enters Try.prog 30 := enters_of Try.func30 (by kernel_rfl) rfl
theorem ent_31 : Enters Try.prog 31 := enters_of Try.func31 (by kernel_rfl) rfl
theorem ent_32 : Enters Try.prog 32 := enters_of Try.func32 (by kernel_rfl) rfl
theorem ent_33 : Enters Try.prog 33 := enters_of Try.func33 (by kernel_rfl) rfl
theorem ent_34 : Enters Try.prog 34 := enters_of Try.func34 (by kernel_rfl) rfl
theorem ent_36 : Enters Try.prog 36 := enters_of Try.func36 (by kernel_rfl) rfl
theorem ent_37 : Enters Try.prog 37 := enters_of Try.func37 (by kernel_rfl) rfl
theorem ent_60 : Enters Try.prog 60 := enters_of Try.func60 (by kernel_rfl) rfl
theorem cW : Enters Try.prog 61 := enters_of Try.func61 (by kernel_rfl) rfl
theorem ty_67 : TyI Try.prog 67 true 5 56 (.agg #[.bool false, .int .u64 0, .int .u64 0, .int .i64 0, .slice none 0 0]) := TyI.mk' (by kernel_rfl) (fun _ => by kernel_rfl)

set_option maxRecDepth 100000 in
theorem c_vNew (rg : Rg) (res : List Rg) (A : Option Addr) (c : Nat) (hr : RgOk rg) (hrs : ∀ x ∈ res, RgOk x) (hl : res.length ≤ 1000000000000) (h0 : cksR (rg :: res) = 0) : RC Try.prog 27 #[.agg (plC rg A res.length c).toArray] [Ch.rd A 4 dC res] (α := {v : Vp // v.rg = rg ∧ v.res = res ∧ v.room = dX rg res}) (fun o => .tuple #[.pointer (some ⟨o.1.b, 0, none⟩), .int .i64 0]) (fun o => [vmC o.1 [] [], Ch.ls o.1.A o.1.c 64 4 dC o.1.res, Ch.row o.1.b (vpC o.1) 113]) := by
 refine aY (args := [.agg (plC rg A res.length c).toArray]) 24 Try.func27 rfl rfl rfl (fun w0 => ?_)
 refine ak ?_
 refine aa ?_
 refine bj rfl rfl rfl (fun b1 => ?_)
 refine ap (ai rfl) rfl rfl ?_
 refine ap (ai rfl) rfl rfl ?_
 refine ae ?_
 refine aj ?_
 refine ak ?_
 refine ak ?_
 refine aa ?_
 refine ap (aJ 0 ty_67 rfl rfl rfl rfl) rfl rfl ?_
 refine bk rfl ent_37 rfl (c_vCheck rg res A c hr hrs hl) (fun w hw => (aX (dv 0 rfl hw) a8)) ?_
 refine ap (ai rfl) rfl rfl ?_
 refine ae ?_
 refine aj ?_
 refine ak ?_
 refine aa ?_
 refine ap (ao rfl) rfl rfl ?_
 refine ap (cN rfl rfl) rfl rfl ?_
 refine wl_af (t := 8) rfl (fun h => h h0) ?_
 refine ae ?_
 refine aj ?_
 refine ay rfl ?_
 refine aM ?_
 refine aj ?_
 refine ak ?_
 refine aa ?_
 refine ap (aB ey rfl) rfl rfl ?_
 refine ap (aF 0 ty_65 rfl rfl rfl) rfl rfl ?_
 refine c8 rfl ent_60 rfl (c_Clone_rg res A c hl) (fun w hw => (aX (dv 0 rfl hw) a8)) (fun ⟨A1, c1⟩ => ?_)
 refine ap (aB ey rfl) rfl rfl ?_
 refine aE ty_65 rfl rfl rfl (.s (.z)) rfl rfl rfl rfl ?_
 refine ae ?_
 refine aj ?_
 refine ak ?_
 refine w_drawU 12 rfl cq ?_
 refine aT (i := 0) rfl ab (aJ 1 ty_67 rfl rfl rfl rfl) av av rfl (ah aq) (by kernel_rfl) rfl ?_
 refine aT (i := 3) rfl ab (aB dO rfl) av av rfl (ah aq) (by kernel_rfl) rfl ?_
 refine aT (i := 4) rfl ab (aJ 1 bA rfl rfl rfl rfl) av av rfl (ah aq) (by kernel_rfl) rfl ?_
 refine aT (i := 5) rfl ab (aB ey rfl) av av rfl (ah aq) (by kernel_rfl) rfl ?_
 refine aT (i := 6) rfl ab (aF 1 ty_65 rfl rfl rfl) av av rfl (ah aq) (by kernel_rfl) rfl ?_
 refine u_many (js := [1, 2, 7]) (by kernel_rfl) rfl ?_
 refine bL (i := 1) rfl rfl rfl (fun _ _ _ => bb (by kernel_rfl)) rfl ?_ ?_
 refine bB bT cr rfl (fun r2 => ?_)
 refine ae ?_
 refine bo (bM 1) ?_
 refine u_many (js := [2, 7]) (by kernel_rfl) rfl ?_
 refine bL (i := 2) rfl rfl rfl (fun _ _ _ => bb (by kernel_rfl)) rfl ?_ ?_
 refine bB em bT rfl (fun r3 => ?_)
 refine ae ?_
 refine bo (bM 2) ?_
 refine cK (i := 7) rfl rfl rfl (bd rfl cW) (by kernel_rfl) rfl ?_
 refine bk rfl cW rfl (ec rg res A1 c1 hr hrs hl) (fun w hw => (aX (rd_Ls 2 rfl hw) a8)) ?_
 refine ae ?_
 refine bo (bM 2) ?_
 refine aT (i := 8) rfl ab (a5 rfl (bx _ _ _ _ _ _ _ _ _ _)) (bM 2) av rfl (ah aq) (by kernel_rfl) rfl ?_
 refine cK (i := 9) rfl rfl rfl (fun _ _ _ => bb (by kernel_rfl)) (by kernel_rfl) rfl ?_
 refine bj rfl rfl rfl (fun b5 => ?_)
 refine ae ?_
 refine bo (bM 3) ?_
 refine aT (i := 10) rfl ab (ai rfl) (bM 3) av rfl (ah aq) (by kernel_rfl) rfl ?_
 refine aT (i := 11) rfl ab (ai rfl) (bM 3) av rfl (ah aq) (by kernel_rfl) rfl ?_
 refine dg (by kernel_rfl) ?_
 refine aj ?_
 refine aC ?_
 refine aI (ts := [2, 3]) rfl rfl rfl (fun w hw => ?_)
 exact ⟨⟨⟨rg, res, A1, c1, (dX rg res : Nat), b5, r2, r3⟩, rfl, rfl, rfl⟩, rfl, hw.base, ((hw.weak (.cons_cons _ (.cons_cons _ (.cons_cons _ (.cons_cons _ (.cons _ .slnil))))) (fun s hs => hs)).f3.f2.f3).two.toNews⟩
 refine bL (i := 7) rfl rfl rfl (bd rfl cW) rfl ?_ ?_
 refine bk rfl cW rfl (ec rg res A1 c1 hr hrs hl) (fun w hw => (aX (rd_Ls 1 rfl hw) a8)) ?_
 refine ae ?_
 refine bo (bM 1) ?_
 refine cK (i := 2) rfl rfl rfl (fun _ _ _ => bb (by kernel_rfl)) (by kernel_rfl) rfl ?_
 refine bB em bT rfl (fun r5 => ?_)
 refine ae ?_
 refine bo (bM 2) ?_
 refine aT (i := 8) rfl ab (a5 rfl (bx _ _ _ _ _ _ _ _ _ _)) (bM 2) av rfl (ah aq) (by kernel_rfl) rfl ?_
 refine cK (i := 9) rfl rfl rfl (fun _ _ _ => bb (by kernel_rfl)) (by kernel_rfl) rfl ?_
 refine bj rfl rfl rfl (fun b7 => ?_)
 refine ae ?_
 refine bo (bM 3) ?_
 refine aT (i := 10) rfl ab (ai rfl) (bM 3) av rfl (ah aq) (by kernel_rfl) rfl ?_
 refine aT (i := 11) rfl ab (ai rfl) (bM 3) av rfl (ah aq) (by kernel_rfl) rfl ?_
 refine dg (by kernel_rfl) ?_
 refine aj ?_
 refine aC ?_
 refine aI (ts := [2, 3]) rfl rfl rfl (fun w hw => ?_)
 exact ⟨⟨⟨rg, res, A1, c1, (dX rg res : Nat), b7, r2, r5⟩, rfl, rfl, rfl⟩, rfl, hw.base, ((hw.weak (.cons_cons _ (.cons_cons _ (.cons_cons _ (.cons_cons _ (.cons _ .slnil))))) (fun s hs => hs)).f3.f2.f3).two.toNews⟩
 exact ei
 refine bL (i := 2) rfl rfl rfl (fun _ _ _ => bb (by kernel_rfl)) rfl ?_ ?_
 refine bB em bT rfl (fun r7 => ?_)
 refine ae ?_
 refine bo (bM 1) ?_
 refine u_many (js := [1, 7]) (by kernel_rfl) rfl ?_
 refine bL (i := 1) rfl rfl rfl (fun _ _ _ => bb (by kernel_rfl)) rfl ?_ ?_
 refine bB bT cr rfl (fun r8 => ?_)
 refine ae ?_
 refine bo (bM 2) ?_
 refine cK (i := 7) rfl rfl rfl (bd rfl cW) (by kernel_rfl) rfl ?_
 refine bk rfl cW rfl (ec rg res A1 c1 hr hrs hl) (fun w hw => (aX (rd_Ls 2 rfl hw) a8)) ?_
 refine ae ?_
 refine bo (bM 2) ?_
 refine aT (i := 8) rfl ab (a5 rfl (bx _ _ _ _ _ _ _ _ _ _)) (bM 2) av rfl (ah aq) (by kernel_rfl) rfl ?_
 refine cK (i := 9) rfl rfl rfl (fun _ _ _ => bb (by kernel_rfl)) (by kernel_rfl) rfl ?_
 refine bj rfl rfl rfl (fun b10 => ?_)
 refine ae ?_
 refine bo (bM 3) ?_
 refine aT (i := 10) rfl ab (ai rfl) (bM 3) av rfl (ah aq) (by kernel_rfl) rfl ?_
 refine aT (i := 11) rfl ab (ai rfl) (bM 3) av rfl (ah aq) (by kernel_rfl) rfl ?_
 refine dg (by kernel_rfl) ?_
 refine aj ?_
 refine aC ?_
 refine aI (ts := [2, 3]) rfl rfl rfl (fun w hw => ?_)
 exact ⟨⟨⟨rg, res, A1, c1, (dX rg res : Nat), b10, r8, r7⟩, rfl, rfl, rfl⟩, rfl, hw.base, ((hw.weak (.cons_cons _ (.cons_cons _ (.cons_cons _ (.cons_cons _ (.cons _ .slnil))))) (fun s hs => hs)).f3.f3.f3).two.toNews⟩
 refine bL (i := 7) rfl rfl rfl (bd rfl cW) rfl ?_ ?_
 refine bk rfl cW rfl (ec rg res A1 c1 hr hrs hl) (fun w hw => (aX (rd_Ls 1 rfl hw) a8)) ?_
 refine ae ?_
 refine bo (bM 1) ?_
 refine cK (i := 1) rfl rfl rfl (fun _ _ _ => bb (by kernel_rfl)) (by kernel_rfl) rfl ?_
 refine bB bT cr rfl (fun r10 => ?_)
 refine ae ?_
 refine bo (bM 2) ?_
 refine aT (i := 8) rfl ab (a5 rfl (bx _ _ _ _ _ _ _ _ _ _)) (bM 2) av rfl (ah aq) (by kernel_rfl) rfl ?_
 refine cK (i := 9) rfl rfl rfl (fun _ _ _ => bb (by kernel_rfl)) (by kernel_rfl) rfl ?_
 refine bj rfl rfl rfl (fun b12 => ?_)
 refine ae ?_
 refine bo (bM 3) ?_
 refine aT (i := 10) rfl ab (ai rfl) (bM 3) av rfl (ah aq) (by kernel_rfl) rfl ?_
 refine aT (i := 11) rfl ab (ai rfl) (bM 3) av rfl (ah aq) (by kernel_rfl) rfl ?_
 refine dg (by kernel_rfl) ?_
 refine aj ?_
 refine aC ?_
 refine aI (ts := [2, 3]) rfl rfl rfl (fun w hw => ?_)
 exact ⟨⟨⟨rg, res, A1, c1, (dX rg res : Nat), b12, r10, r7⟩, rfl, rfl, rfl⟩, rfl, hw.base, ((hw.weak (.cons_cons _ (.cons_cons _ (.cons_cons _ (.cons_cons _ (.cons _ .slnil))))) (fun s hs => hs)).f3.f3.f3).two.toNews⟩
 exact ei
 refine bL (i := 7) rfl rfl rfl (bd rfl cW) rfl ?_ ?_
 refine bk rfl cW rfl (ec rg res A1 c1 hr hrs hl) (fun w hw => (aX (rd_Ls 0 rfl hw) a8)) ?_
 refine ae ?_
 refine bo av ?_
 refine u_many (js := [1, 2]) (by kernel_rfl) rfl ?_
 refine bL (i := 1) rfl rfl rfl (fun _ _ _ => bb (by kernel_rfl)) rfl ?_ ?_
 refine bB bT cr rfl (fun r12 => ?_)
 refine ae ?_
 refine bo (bM 1) ?_
 refine cK (i := 2) rfl rfl rfl (fun _ _ _ => bb (by kernel_rfl)) (by kernel_rfl) rfl ?_
 refine bB em bT rfl (fun r13 => ?_)
 refine ae ?_
 refine bo (bM 2) ?_
 refine aT (i := 8) rfl ab (a5 rfl (bx _ _ _ _ _ _ _ _ _ _)) (bM 2) av rfl (ah aq) (by kernel_rfl) rfl ?_
 refine cK (i := 9) rfl rfl rfl (fun _ _ _ => bb (by kernel_rfl)) (by kernel_rfl) rfl ?_
 refine bj rfl rfl rfl (fun b15 => ?_)
 refine ae ?_
 refine bo (bM 3) ?_
 refine aT (i := 10) rfl ab (ai rfl) (bM 3) av rfl (ah aq) (by kernel_rfl) rfl ?_
 refine aT (i := 11) rfl ab (ai rfl) (bM 3) av rfl (ah aq) (by kernel_rfl) rfl ?_
 refine dg (by kernel_rfl) ?_
 refine aj ?_
 refine aC ?_
 refine aI (ts := [2, 3]) rfl rfl rfl (fun w hw => ?_)
 exact ⟨⟨⟨rg, res, A1, c1, (dX rg res : Nat), b15, r12, r13⟩, rfl, rfl, rfl⟩, rfl, hw.base, ((hw.weak (.cons_cons _ (.cons_cons _ (.cons_cons _ (.cons_cons _ (.cons _ .slnil))))) (fun s hs => hs)).f3.f2.f3).two.toNews⟩
 refine bL (i := 2) rfl rfl rfl (fun _ _ _ => bb (by kernel_rfl)) rfl ?_ ?_
 refine bB em bT rfl (fun r15 => ?_)
 refine ae ?_
 refine bo (bM 1) ?_
 refine cK (i := 1) rfl rfl rfl (fun _ _ _ => bb (by kernel_rfl)) (by kernel_rfl) rfl ?_
 refine bB bT cr rfl (fun r16 => ?_)
 refine ae ?_
 refine bo (bM 2) ?_
 refine aT (i := 8) rfl ab (a5 rfl (bx _ _ _ _ _ _ _ _ _ _)) (bM 2) av rfl (ah aq) (by kernel_rfl) rfl ?_
 refine cK (i := 9) rfl rfl rfl (fun _ _ _ => bb (by kernel_rfl)) (by kernel_rfl) rfl ?_
 refine bj rfl rfl rfl (fun b18 => ?_)
 refine ae ?_
 refine bo (bM 3) ?_
 refine aT (i := 10) rfl ab (ai rfl) (bM 3) av rfl (ah aq) (by kernel_rfl) rfl ?_
 refine aT (i := 11) rfl ab (ai rfl) (bM 3) av rfl (ah aq) (by kernel_rfl) rfl ?_
 refine dg (by kernel_rfl) ?_
 refine aj ?_
 refine aC ?_
 refine aI (ts := [2, 3]) rfl rfl rfl (fun w hw => ?_)
 exact ⟨⟨⟨rg, res, A1, c1, (dX rg res : Nat), b18, r16, r15⟩, rfl, rfl, rfl⟩, rfl, hw.base, ((hw.weak (.cons_cons _ (.cons_cons _ (.cons_cons _ (.cons_cons _ (.cons _ .slnil))))) (fun s hs => hs)).f3.f3.f3).two.toNews⟩
 exact ei
 exact ei

theorem give_cong {v v' : Vp} (h : v.rg = v'.rg ∧ v.res = v'.res ∧ v.room = v'.room) (hm : Hm) (am : Am) (n : aK) : bv v hm am n = bv v' hm am n := by
  obtain ⟨rg, res, A, c, room, b, rh, ra⟩ := v
  obtain ⟨rg', res', A', c', room', b', rh', ra'⟩ := v'
  obtain ⟨h1, h2, h3⟩ := h
  dsimp only at h1 h2 h3
  subst h1 h2 h3
  rfl
def rg14 : Rg := ⟨⟨false, 0, 167772160⟩, 31⟩
def v14 : Vp := ⟨rg14, [], none, 0, 2, 0, 0, 0⟩
theorem rg14_ok : RgOk rg14 := by unfold RgOk AdOk rg14; decide
theorem ck14 : cksR [rg14] = 0 := by decide +kernel
theorem fr14 : dX rg14 [] = 2 := by decide +kernel
def s14a : Hm × Am := (bv v14 [] [] [1, 97]).2
def s14b : Hm × Am := (bv v14 s14a.1 s14a.2 [1, 98]).2
def s14f : Hm × Am := (bv v14 s14b.1 s14b.2 [1, 99]).2
def s14c : Hm × Am := (cb s14f.1 s14f.2 [1, 65]).2
theorem g14a : (bv v14 [] [] [1, 97]).1.2 = 0 := by decide +kernel
theorem g14b : (bv v14 s14a.1 s14a.2 [1, 98]).1.2 = 0 ∧ (bv v14 [] [] [1, 97]).1.1 ≠ (bv v14 s14a.1 s14a.2 [1, 98]).1.1 := by decide +kernel
theorem g14c : (bv v14 s14b.1 s14b.2 [1, 99]).1.2 = 10 := by decide +kernel
theorem g14d : (bv v14 s14c.1 s14c.2 [1, 99]).1.2 = 0 ∧ (bv v14 s14c.1 s14c.2 [1, 99]).1.1 = (bv v14 [] [] [1, 97]).1.1 := by decide +kernel
theorem ok14 {v : Vp} (h : v.rg = rg14 ∧ v.res = [] ∧ v.room = 2) : VOk v := ⟨h.1 ▸ rg14_ok, by rw [h.2.1]; exact nofun, by rw [h.2.1]; decide, by rw [h.2.2]; decide⟩
theorem c_g14 {v : Vp} (h : v.rg = rg14 ∧ v.res = [] ∧ v.room = 2) (hm : Hm) (am : Am) (n : aK) (hn : n.length ≤ 1000000000) (hml : hm.length ≤ 1000000) :
    UC Try.prog 31 #[.pointer (some ⟨v.b, 0, none⟩), .string (ba n)] [Ch.row v.b (vpC v) 113, Ch.rd v.A 4 dC v.res] (vmC v hm am) (fun _ : Unit => .tuple #[.agg (c5 (bv v14 hm am n).1.1).toArray, .int .i64 (bv v14 hm am n).1.2]) (fun _ : Unit => vmC v (bv v14 hm am n).2.1 (bv v14 hm am n).2.2) := by
  rw [← give_cong (v := v) (v' := v14) h]; exact c_vGive v hm am n (ok14 h) hn hml

theorem c_two14  : RC Try.prog 28 #[] [] (α := Unit) (fun _ => .agg (plC rg14 none 0 0).toArray) (fun _ => []) := by
 refine aY (args := []) 4 Try.func28 rfl rfl rfl (fun w0 => ?_)
 refine ak ?_
 refine aa ?_
 refine a0 ty_67 rfl rfl (fun b1 => ?_)
 refine ae ?_
 refine aj ?_
 refine ak ?_
 refine aa ?_
 refine ap (a5 rfl (bu_62_2 _)) rfl rfl ?_
 refine ap (a5 rfl (bu_64_0_1 _ _ _ _)) rfl rfl ?_
 refine ap (a5 rfl (bu_67_0 _ _ _ _)) rfl rfl ?_
 refine aE ty_67 rfl rfl rfl .z rfl rfl rfl rfl ?_
 refine ae ?_
 refine aj ?_
 refine aC ?_
 refine cO (rs := [.cell 0 67]) rfl (aZ 0 ty_67 rfl rfl rfl rfl bi) rfl (fun w hw => ?_)
 exact ⟨(), rfl, hw.base, (hw.weak (List.nil_sublist _) (fun s hs => hs)).toNews⟩

set_option maxRecDepth 100000 in
set_option maxHeartbeats 4000000 in
theorem c_lives14  : cx Try.prog 26 #[] (.bool true) := by
 intro w0
 refine aV (ok0 := no) (S := []) (args := []) 68 Try.func26 rfl rfl rfl (by simp) (by simp) ?_
 refine ak ?_
 refine aa ?_
 refine ap (ai rfl) rfl rfl ?_
 refine ae ?_
 refine aj ?_
 refine ak ?_
 refine aa ?_
 refine bk rfl ent_28 rfl c_two14 (fun w hw => a8) ?_
 refine o_callr3 rfl ent_27 rfl (c_vNew rg14 [] none 0 rg14_ok nofun (by decide) ck14) (fun w hw => (aX (rd_none) a8)) (fun ⟨v, hv⟩ => ?_)
 have hv14 : v.rg = rg14 ∧ v.res = [] ∧ v.room = 2 := ⟨hv.1, hv.2.1, hv.2.2.trans (by rw [fr14]; rfl)⟩
 refine dF (fun w h => h.f1.toRdV.f1.freeze) ?_
 refine ap (ao rfl) rfl rfl ?_
 refine ap (aA rfl rfl) rfl rfl ?_
 refine ap (aA rfl rfl) rfl rfl ?_
 refine ap (ai rfl) rfl rfl ?_
 refine ap (ai rfl) rfl rfl ?_
 refine ae ?_
 refine aj ?_
 refine ak ?_
 refine ak ?_
 refine aa ?_
 refine ap (ao rfl) rfl rfl ?_
 refine ap (cN rfl rfl) rfl rfl ?_
 refine wl_af (t := 17) rfl (fun h => h rfl) ?_
 refine ap (ao rfl) rfl rfl ?_
 refine az rfl rfl ?_
 refine ap (ao rfl) rfl rfl ?_
 refine az rfl rfl ?_
 refine ap (cL Try.underlying57 rfl rfl) rfl rfl ?_
 refine bD (t := 20) (.bool false) rfl (congrArg Value.bool rfl) ?_
 refine ap (aU rfl rfl) rfl rfl ?_
 refine ae ?_
 refine aj ?_
 refine ay rfl ?_
 refine aM ?_
 refine aj ?_
 refine ak ?_
 refine aa ?_
 refine ap (ao rfl) rfl rfl ?_
 refine bY rfl ent_31 rfl (c_g14 hv14 [] [] [1, 97] (by decide) (by as_aux_lemma => decide +kernel)) (fun o => .z) (List.mem_of_getElem? (i := 0) rfl) (fun s hs => (List.mem_cons.1 hs).elim (fun e => e ▸ .head _) (fun h => (List.mem_singleton.1 h) ▸ .tail _ (.head _))) (fun o1 => ?_)
 refine ap (ao rfl) rfl rfl ?_
 refine ap (aA rfl rfl) rfl rfl ?_
 refine ap (aA rfl rfl) rfl rfl ?_
 refine a0 aD rfl rfl (fun b3 => ?_)
 refine aE aD rfl rfl rfl .z rfl rfl rfl rfl ?_
 refine ap (ai rfl) rfl rfl ?_
 refine ae ?_
 refine aj ?_
 refine ak ?_
 refine aa ?_
 refine ap (ao rfl) rfl rfl ?_
 refine bY rfl ent_31 rfl (c_g14 hv14 s14a.1 s14a.2 [1, 98] (by decide) (by as_aux_lemma => decide +kernel)) (fun o => (.s (.z))) (List.mem_of_getElem? (i := 1) rfl) (fun s hs => (List.mem_cons.1 hs).elim (fun e => e ▸ .head _) (fun h => (List.mem_singleton.1 h) ▸ .tail _ (.head _))) (fun o3 => ?_)
 refine ap (ao rfl) rfl rfl ?_
 refine ap (aA rfl rfl) rfl rfl ?_
 refine ap (aA rfl rfl) rfl rfl ?_
 refine a0 aD rfl rfl (fun b5 => ?_)
 refine aE aD rfl rfl rfl .z rfl rfl rfl rfl ?_
 refine ap (ai rfl) rfl rfl ?_
 refine ae ?_
 refine aj ?_
 refine ak ?_
 refine aa ?_
 refine ap (ao rfl) rfl rfl ?_
 refine bY rfl ent_31 rfl (c_g14 hv14 s14b.1 s14b.2 [1, 99] (by decide) (by as_aux_lemma => decide +kernel)) (fun o => (.s (.s (.z)))) (List.mem_of_getElem? (i := 2) rfl) (fun s hs => (List.mem_cons.1 hs).elim (fun e => e ▸ .head _) (fun h => (List.mem_singleton.1 h) ▸ .tail _ (.head _))) (fun o5 => ?_)
 refine ap (ao rfl) rfl rfl ?_
 refine ap (aA rfl rfl) rfl rfl ?_
 refine ap (aA rfl rfl) rfl rfl ?_
 refine a0 aD rfl rfl (fun b7 => ?_)
 refine aE aD rfl rfl rfl .z rfl rfl rfl rfl ?_
 refine ap (ai rfl) rfl rfl ?_
 refine ae ?_
 refine aj ?_
 refine ak ?_
 refine aa ?_
 refine ap (ao rfl) rfl rfl ?_
 refine bY rfl ent_33 rfl (c_vDrop v s14f.1 s14f.2 [1, 65] (by decide)) (fun o => (.s (.s (.s (.z))))) (List.mem_of_getElem? (i := 3) rfl) (fun s hs => (List.mem_singleton.1 hs) ▸ .head _) (fun o7 => ?_)
 refine ae ?_
 refine aj ?_
 refine ak ?_
 refine aa ?_
 refine ap (ao rfl) rfl rfl ?_
 refine bY rfl ent_31 rfl (c_g14 hv14 s14c.1 s14c.2 [1, 99] (by decide) (by as_aux_lemma => decide +kernel)) (fun o => (.s (.s (.s (.z))))) (List.mem_of_getElem? (i := 3) rfl) (fun s hs => (List.mem_cons.1 hs).elim (fun e => e ▸ .head _) (fun h => (List.mem_singleton.1 h) ▸ .tail _ (.head _))) (fun o8 => ?_)
 refine ap (ao rfl) rfl rfl ?_
 refine ap (aA rfl rfl) rfl rfl ?_
 refine ap (aA rfl rfl) rfl rfl ?_
 refine a0 aD rfl rfl (fun b10 => ?_)
 refine aE aD rfl rfl rfl .z rfl rfl rfl rfl ?_
 refine ap (ai rfl) rfl rfl ?_
 refine ae ?_
 refine aj ?_
 refine ak ?_
 refine aa ?_
 refine ap (ao rfl) rfl rfl ?_
 refine ap (ct rfl rfl) rfl rfl ?_
 refine dn (t := 45) rfl g14a ?_
 refine ap (ao rfl) rfl rfl ?_
 refine az rfl rfl ?_
 refine ap (ao rfl) rfl rfl ?_
 refine az rfl rfl ?_
 refine ap (ct rfl rfl) rfl rfl ?_
 refine dn (t := 48) rfl g14b.1 ?_
 refine ap (aL rfl rfl) rfl rfl ?_
 refine ap (ao rfl) rfl rfl ?_
 refine az rfl rfl ?_
 refine ap (ao rfl) rfl rfl ?_
 refine az rfl rfl ?_
 refine ap (ct rfl rfl) rfl rfl ?_
 refine dn (t := 52) rfl g14c ?_
 refine ap (aL rfl rfl) rfl rfl ?_
 refine ap (ao rfl) rfl rfl ?_
 refine az rfl rfl ?_
 refine ap (ao rfl) rfl rfl ?_
 refine az rfl rfl ?_
 refine ap (ct rfl rfl) rfl rfl ?_
 refine dn (t := 56) rfl g14d.1 ?_
 refine ap (aL rfl rfl) rfl rfl ?_
 refine ap (ao rfl) rfl rfl ?_
 refine az rfl rfl ?_
 refine ap (aJ 3 aD rfl rfl rfl rfl) rfl rfl ?_
 refine az rfl rfl ?_
 refine ap (aJ 2 aD rfl rfl rfl rfl) rfl rfl ?_
 refine az rfl rfl ?_
 refine ap (y_nestd (by as_aux_lemma => kernel_rfl) rfl rfl (eqd_ad _ _) rfl) rfl rfl ?_
 refine dn (t := 61) rfl g14b.2 ?_
 refine ap (aL rfl rfl) rfl rfl ?_
 refine ap (ao rfl) rfl rfl ?_
 refine az rfl rfl ?_
 refine ap (aJ 0 aD rfl rfl rfl rfl) rfl rfl ?_
 refine az rfl rfl ?_
 refine ap (aJ 3 aD rfl rfl rfl rfl) rfl rfl ?_
 refine az rfl rfl ?_
 refine ap (y_eqst (by as_aux_lemma => kernel_rfl) rfl rfl (eqd_ad _ _) rfl) rfl rfl ?_
 refine dn (t := 66) rfl g14d.2 ?_
 refine ap (aL rfl rfl) rfl rfl ?_
 refine ap (ai rfl) rfl rfl ?_
 refine ae ?_
 refine aj ?_
 refine aC ?_
 refine aI (ts := [0]) rfl rfl rfl (fun w hw => ?_)
 exact ⟨rfl, hw.base⟩

set_option maxRecDepth 100000 in
theorem c_nGive (n : aK) : RC Try.prog 31 #[.pointer none, .string (ba n)] [] (α := Unit) (fun _ => .tuple #[.agg (c5 ad0).toArray, .int .i64 1]) (fun _ => []) := by
 refine rc_of_WM (args := [.pointer none, .string (ba n)]) 81 Try.func31 rfl rfl rfl (fun w0 => ?_)
 refine ak ?_
 refine aa ?_
 refine bj rfl rfl rfl (fun b1 => ?_)
 refine bj rfl rfl rfl (fun b2 => ?_)
 refine a0 aD rfl rfl (fun b3 => ?_)
 refine a0 bI rfl rfl (fun b4 => ?_)
 refine ae ?_
 refine aj ?_
 refine ak ?_
 refine aR ?_
 refine ak ?_
 refine aa ?_
 refine ap (aF 3 cE rfl rfl rfl) rfl rfl ?_
 refine ap (cL Try.underlying57 rfl rfl) rfl rfl ?_
 refine bD (t := 14) (.bool true) rfl (congrArg Value.bool rfl) ?_
 refine ap (ai rfl) rfl rfl ?_
 refine ae ?_
 refine aj ?_
 refine ax rfl ?_
 refine ak ?_
 refine aa ?_
 refine ap (a5 rfl (cS)) rfl rfl ?_
 refine aE aD rfl rfl rfl (.s (.z)) rfl rfl rfl rfl ?_
 refine aE bI rfl rfl rfl .z rfl rfl rfl rfl ?_
 refine ae ?_
 refine aj ?_
 refine aC ?_
 refine aS ?_
 refine aw ?_
 refine dk ?_
 refine cu (rs := [.cell 4 62, .cell 5 31]) rfl (aZ 1 aD rfl rfl rfl rfl (cp 0 bI rfl rfl rfl bi)) (fun w hw => ?_)
 exact ⟨(), rfl, hw.base, (hw.weak (List.nil_sublist _) (fun s hs => hs)).toNews⟩

theorem c_nKeep (l : List aK) (A : Option Addr) (c : Nat) : RC Try.prog 29 #[.pointer none, .slice A l.length c] [] (α := Unit) (fun _ => .tuple #[.slice none 0 0, .int .i64 1]) (fun _ => []) := by
 refine aY (args := [.pointer none, .slice A l.length c]) 83 Try.func29 rfl rfl rfl (fun w0 => ?_)
 refine ak ?_
 refine aa ?_
 refine ap (ai rfl) rfl rfl ?_
 refine ap (ai rfl) rfl rfl ?_
 refine ae ?_
 refine aj ?_
 refine ak ?_
 refine ak ?_
 refine aa ?_
 refine ap (ao rfl) rfl rfl ?_
 refine ap (cL Try.underlying57 rfl rfl) rfl rfl ?_
 refine bD (t := 18) (.bool true) rfl (congrArg Value.bool rfl) ?_
 refine ae ?_
 refine aj ?_
 refine ax rfl ?_
 refine ak ?_
 refine aa ?_
 refine ap (ai rfl) rfl rfl ?_
 refine ap (ai rfl) rfl rfl ?_
 refine ae ?_
 refine aj ?_
 refine aC ?_
 refine aw ?_
 refine aI (ts := [4, 5]) rfl rfl rfl (fun w hw => ?_)
 exact ⟨(), rfl, hw.base, (hw.weak (List.nil_sublist _) (fun s hs => hs)).toNews⟩

set_option maxRecDepth 100000 in
theorem c_nOf (n : aK) : RC Try.prog 30 #[.pointer none, .string (ba n)] [] (α := Unit) (fun _ => .tuple #[.agg (c5 ad0).toArray, .bool false]) (fun _ => []) := by
 refine aY (args := [.pointer none, .string (ba n)]) 29 Try.func30 rfl rfl rfl (fun w0 => ?_)
 refine ak ?_
 refine aa ?_
 refine a0 aD rfl rfl (fun b1 => ?_)
 refine ap (ai rfl) rfl rfl ?_
 refine ae ?_
 refine aj ?_
 refine ak ?_
 refine ak ?_
 refine aa ?_
 refine ap (ao rfl) rfl rfl ?_
 refine ap (cL Try.underlying57 rfl rfl) rfl rfl ?_
 refine bD (t := 9) (.bool true) rfl (congrArg Value.bool rfl) ?_
 refine ap (ao rfl) rfl rfl ?_
 refine aW rfl rfl rfl rfl ?_
 refine aW rfl rfl rfl rfl ?_
 refine aW rfl rfl rfl rfl ?_
 refine ap (aL rfl rfl) rfl rfl ?_
 refine ae ?_
 refine aj ?_
 refine ax rfl ?_
 refine ak ?_
 refine aa ?_
 refine ap (a5 rfl (cS)) rfl rfl ?_
 refine aE aD rfl rfl rfl .z rfl rfl rfl rfl ?_
 refine ap (ai rfl) rfl rfl ?_
 refine ae ?_
 refine aj ?_
 refine aC ?_
 refine aw ?_
 refine cO (rs := [.cell 4 62, .tmp 5]) rfl (aZ 0 aD rfl rfl rfl rfl (ck rfl bi)) rfl (fun w hw => ?_)
 exact ⟨(), rfl, hw.base, (hw.weak (List.nil_sublist _) (fun s hs => hs)).toNews⟩

set_option maxRecDepth 100000 in
theorem c_nHost (a : Ad) : RC Try.prog 34 #[.pointer none, .agg (c5 a).toArray] [] (α := Unit) (fun _ => .tuple #[.string (ba []), .bool false]) (fun _ => []) := by
 refine aY (args := [.pointer none, .agg (c5 a).toArray]) 28 Try.func34 rfl rfl rfl (fun w0 => ?_)
 refine ak ?_
 refine aa ?_
 refine bj rfl rfl rfl (fun b1 => ?_)
 refine ap (ai rfl) rfl rfl ?_
 refine ap (ai rfl) rfl rfl ?_
 refine ae ?_
 refine aj ?_
 refine ak ?_
 refine ak ?_
 refine aa ?_
 refine ap (ao rfl) rfl rfl ?_
 refine ap (cL Try.underlying57 rfl rfl) rfl rfl ?_
 refine bD (t := 9) (.bool true) rfl (congrArg Value.bool rfl) ?_
 refine ae ?_
 refine aj ?_
 refine ax rfl ?_
 refine ak ?_
 refine aa ?_
 refine ap (ai rfl) rfl rfl ?_
 refine ap (ai rfl) rfl rfl ?_
 refine ae ?_
 refine aj ?_
 refine aC ?_
 refine aw ?_
 refine aI (ts := [4, 5]) rfl rfl rfl (fun w hw => ?_)
 exact ⟨(), rfl, hw.base, (hw.weak (List.nil_sublist _) (fun s hs => hs)).toNews⟩

theorem c_nDrop (n : aK) : RC Try.prog 33 #[.pointer none, .string (ba n)] [] (α := Unit) (fun _ => .int .i64 1) (fun _ => []) := by
 refine aY (args := [.pointer none, .string (ba n)]) 31 Try.func33 rfl rfl rfl (fun w0 => ?_)
 refine ak ?_
 refine aa ?_
 refine ap (ai rfl) rfl rfl ?_
 refine ae ?_
 refine aj ?_
 refine ak ?_
 refine aR ?_
 refine ak ?_
 refine aa ?_
 refine ap (ao rfl) rfl rfl ?_
 refine ap (cL Try.underlying57 rfl rfl) rfl rfl ?_
 refine bD (t := 10) (.bool true) rfl (congrArg Value.bool rfl) ?_
 refine ap (ai rfl) rfl rfl ?_
 refine ae ?_
 refine aj ?_
 refine ax rfl ?_
 refine ak ?_
 refine aa ?_
 refine ap (ai rfl) rfl rfl ?_
 refine ae ?_
 refine aj ?_
 refine aC ?_
 refine aS ?_
 refine aw ?_
 refine aI (ts := [4]) rfl rfl rfl (fun w hw => ?_)
 exact ⟨(), rfl, hw.base, (hw.weak (List.nil_sublist _) (fun s hs => hs)).toNews⟩

theorem c_nAll  : RC Try.prog 36 #[.pointer none] [] (α := Unit) (fun _ => .slice none 0 0) (fun _ => []) := by
 refine aY (args := [.pointer none]) 11 Try.func36 rfl rfl rfl (fun w0 => ?_)
 refine ak ?_
 refine aa ?_
 refine ap (ai rfl) rfl rfl ?_
 refine ae ?_
 refine aj ?_
 refine ak ?_
 refine ak ?_
 refine aa ?_
 refine ap (ao rfl) rfl rfl ?_
 refine ap (cL Try.underlying57 rfl rfl) rfl rfl ?_
 refine bD (t := 4) (.bool true) rfl (congrArg Value.bool rfl) ?_
 refine ae ?_
 refine aj ?_
 refine ax rfl ?_
 refine ak ?_
 refine aa ?_
 refine ap (ai rfl) rfl rfl ?_
 refine ae ?_
 refine aj ?_
 refine aC ?_
 refine aw ?_
 refine aI (ts := [2]) rfl rfl rfl (fun w hw => ?_)
 exact ⟨(), rfl, hw.base, (hw.weak (List.nil_sublist _) (fun s hs => hs)).toNews⟩

set_option maxRecDepth 100000 in
theorem c_nFree  : RC Try.prog 35 #[.pointer none] [] (α := Unit) (fun _ => .int .i64 0) (fun _ => []) := by
 refine aY (args := [.pointer none]) 15 Try.func35 rfl rfl rfl (fun w0 => ?_)
 refine ak ?_
 refine aa ?_
 refine ap (ai rfl) rfl rfl ?_
 refine ae ?_
 refine aj ?_
 refine ak ?_
 refine ak ?_
 refine aa ?_
 refine ap (ao rfl) rfl rfl ?_
 refine ap (cL Try.underlying57 rfl rfl) rfl rfl ?_
 refine bD (t := 4) (.bool true) rfl (congrArg Value.bool rfl) ?_
 refine ae ?_
 refine aj ?_
 refine ax rfl ?_
 refine ak ?_
 refine aa ?_
 refine ap (ai rfl) rfl rfl ?_
 refine ae ?_
 refine aj ?_
 refine aC ?_
 refine aw ?_
 refine aI (ts := [2]) rfl rfl rfl (fun w hw => ?_)
 exact ⟨(), rfl, hw.base, (hw.weak (List.nil_sublist _) (fun s hs => hs)).toNews⟩

set_option maxRecDepth 100000 in
theorem c_nClone  : RC Try.prog 32 #[.pointer none] [] (α := Unit) (fun _ => .pointer none) (fun _ => []) := by
 refine aY (args := [.pointer none]) 25 Try.func32 rfl rfl rfl (fun w0 => ?_)
 refine ak ?_
 refine aa ?_
 refine ap (ai rfl) rfl rfl ?_
 refine ae ?_
 refine aj ?_
 refine ak ?_
 refine ak ?_
 refine aa ?_
 refine ap (ao rfl) rfl rfl ?_
 refine ap (cL Try.underlying57 rfl rfl) rfl rfl ?_
 refine bD (t := 4) (.bool true) rfl (congrArg Value.bool rfl) ?_
 refine ae ?_
 refine aj ?_
 refine ax rfl ?_
 refine ak ?_
 refine aa ?_
 refine ap (ai rfl) rfl rfl ?_
 refine ae ?_
 refine aj ?_
 refine aC ?_
 refine aw ?_
 refine aI (ts := [2]) rfl rfl rfl (fun w hw => ?_)
 exact ⟨(), rfl, hw.base, (hw.weak (List.nil_sublist _) (fun s hs => hs)).toNews⟩

theorem c_VipsNil (n : aK) (a : Ad) : cx Try.prog 8 #[.string (ba n), .agg (c5 a).toArray] (.bool true) := by
 intro w0
 refine aV (ok0 := no) (S := []) (args := [.string (ba n), .agg (c5 a).toArray]) 82 Try.func8 rfl rfl rfl (by simp) (by simp) ?_
 refine ak ?_
 refine aa ?_
 refine bj rfl rfl rfl (fun b1 => ?_)
 refine ap (ai rfl) rfl rfl ?_
 refine ae ?_
 refine aj ?_
 refine ak ?_
 refine ak ?_
 refine aa ?_
 refine aO rfl ent_26 c_lives14 rfl ?_
 refine bD (t := 14) (.bool true) rfl (congrArg Value.bool rfl) ?_
 refine ap (bJ rfl) rfl rfl ?_
 refine ae ?_
 refine aj ?_
 refine ay rfl ?_
 refine aM ?_
 refine aj ?_
 refine ak ?_
 refine aa ?_
 refine ap (ai rfl) rfl rfl ?_
 refine ae ?_
 refine aj ?_
 refine ak ?_
 refine aa ?_
 refine ap (ao rfl) rfl rfl ?_
 refine ap (ao rfl) rfl rfl ?_
 refine aO rfl ent_31 (b8 (c_nGive n)) rfl ?_
 refine ap (ao rfl) rfl rfl ?_
 refine ap (aA rfl rfl) rfl rfl ?_
 refine ap (aA rfl rfl) rfl rfl ?_
 refine a0 aD rfl rfl (fun b2 => ?_)
 refine aE aD rfl rfl rfl .z rfl rfl rfl rfl ?_
 refine ap (ai rfl) rfl rfl ?_
 refine ae ?_
 refine aj ?_
 refine ak ?_
 refine aa ?_
 refine ap (ao rfl) rfl rfl ?_
 refine ap (ao rfl) rfl rfl ?_
 refine o_bsl (vs := [_]) ([n] : List (aK)) enc_s Try.underlying25 ce rfl rfl rfl rfl rfl rfl (fun As3 => ?_)
 refine aO rfl ent_29 (b8 (c_nKeep [n] _ _)) rfl ?_
 refine ap (ao rfl) rfl rfl ?_
 refine ap (aA rfl rfl) rfl rfl ?_
 refine ap (aA rfl rfl) rfl rfl ?_
 refine ap (ai rfl) rfl rfl ?_
 refine ap (ai rfl) rfl rfl ?_
 refine ae ?_
 refine aj ?_
 refine ak ?_
 refine aa ?_
 refine ap (ao rfl) rfl rfl ?_
 refine ap (ao rfl) rfl rfl ?_
 refine aO rfl ent_30 (b8 (c_nOf n)) rfl ?_
 refine ap (ao rfl) rfl rfl ?_
 refine ap (aA rfl rfl) rfl rfl ?_
 refine ap (aA rfl rfl) rfl rfl ?_
 refine bD (t := 34) (.bool false) rfl (congrArg Value.bool rfl) ?_
 refine a0 aD rfl rfl (fun b4 => ?_)
 refine aE aD rfl rfl rfl .z rfl rfl rfl rfl ?_
 refine ap (ai rfl) rfl rfl ?_
 refine ae ?_
 refine aj ?_
 refine ak ?_
 refine aa ?_
 refine ap (ao rfl) rfl rfl ?_
 refine ap (aJ 3 aD rfl rfl rfl rfl) rfl rfl ?_
 refine aO rfl ent_34 (b8 (c_nHost a)) rfl ?_
 refine ap (ao rfl) rfl rfl ?_
 refine ap (aA rfl rfl) rfl rfl ?_
 refine ap (aA rfl rfl) rfl rfl ?_
 refine bD (t := 40) (.bool false) rfl (congrArg Value.bool rfl) ?_
 refine ap (ai rfl) rfl rfl ?_
 refine ap (ai rfl) rfl rfl ?_
 refine ae ?_
 refine aj ?_
 refine ak ?_
 refine aa ?_
 refine ap (ao rfl) rfl rfl ?_
 refine ap (ct rfl rfl) rfl rfl ?_
 refine dn (t := 42) rfl rfl ?_
 refine ap (ao rfl) rfl rfl ?_
 refine az rfl rfl ?_
 refine ap (ao rfl) rfl rfl ?_
 refine az rfl rfl ?_
 refine ap (ao rfl) rfl rfl ?_
 refine az rfl rfl ?_
 refine aO rfl ent_33 (b8 (c_nDrop n)) rfl ?_
 refine az rfl rfl ?_
 refine ap (ct rfl rfl) rfl rfl ?_
 refine dn (t := 47) rfl rfl ?_
 refine ap (aL rfl rfl) rfl rfl ?_
 refine ap (ao rfl) rfl rfl ?_
 refine az rfl rfl ?_
 refine ap (ao rfl) rfl rfl ?_
 refine az rfl rfl ?_
 refine ap (cB Try.underlying25 rfl) rfl rfl ?_
 refine az rfl rfl ?_
 refine ap (ct rfl rfl) rfl rfl ?_
 refine dn (t := 52) rfl rfl ?_
 refine ap (aL rfl rfl) rfl rfl ?_
 refine ap (ao rfl) rfl rfl ?_
 refine az rfl rfl ?_
 refine ap (ao rfl) rfl rfl ?_
 refine az rfl rfl ?_
 refine ap (ct rfl rfl) rfl rfl ?_
 refine dn (t := 56) rfl rfl ?_
 refine ap (aL rfl rfl) rfl rfl ?_
 refine ap (ao rfl) rfl rfl ?_
 refine az rfl rfl ?_
 refine ap (ao rfl) rfl rfl ?_
 refine az rfl rfl ?_
 refine ap (bJ rfl) rfl rfl ?_
 refine ap (aL rfl rfl) rfl rfl ?_
 refine ap (ao rfl) rfl rfl ?_
 refine az rfl rfl ?_
 refine ap (ao rfl) rfl rfl ?_
 refine az rfl rfl ?_
 refine ap (bJ rfl) rfl rfl ?_
 refine ap (aL rfl rfl) rfl rfl ?_
 refine ap (ao rfl) rfl rfl ?_
 refine az rfl rfl ?_
 refine ap (ao rfl) rfl rfl ?_
 refine az rfl rfl ?_
 refine aO rfl ent_36 (b8 c_nAll) rfl ?_
 refine az rfl rfl ?_
 refine ap (cB Try.underlying80 rfl) rfl rfl ?_
 refine az rfl rfl ?_
 refine ap (ct rfl rfl) rfl rfl ?_
 refine dn (t := 70) rfl rfl ?_
 refine ap (aL rfl rfl) rfl rfl ?_
 refine ap (ao rfl) rfl rfl ?_
 refine az rfl rfl ?_
 refine ap (ao rfl) rfl rfl ?_
 refine az rfl rfl ?_
 refine aO rfl ent_35 (b8 c_nFree) rfl ?_
 refine az rfl rfl ?_
 refine ap (ct rfl rfl) rfl rfl ?_
 refine dn (t := 75) rfl rfl ?_
 refine ap (aL rfl rfl) rfl rfl ?_
 refine ap (ao rfl) rfl rfl ?_
 refine az rfl rfl ?_
 refine ap (ao rfl) rfl rfl ?_
 refine az rfl rfl ?_
 refine aO rfl ent_32 (b8 c_nClone) rfl ?_
 refine az rfl rfl ?_
 refine ap (cL Try.underlying57 rfl rfl) rfl rfl ?_
 refine bD (t := 80) (.bool true) rfl (congrArg Value.bool rfl) ?_
 refine ap (aL rfl rfl) rfl rfl ?_
 refine ap (ai rfl) rfl rfl ?_
 refine ae ?_
 refine aj ?_
 refine aC ?_
 refine aI (ts := [4]) rfl rfl rfl (fun w hw => ?_)
 exact ⟨rfl, hw.base⟩
end Go.Proofs.Ytnpdgmoeoidppaa
