import Derived.Test.YtnpdgmoeoidppaaGreatJbQa
import Derived.Test.YtnpdgmoeoidppaaGreatLrQa
/- law 18: its tables, its examples -/
namespace Go.Proofs.YtnpdgmoeoidppaaGreat
open Go.RowKit Go.Shelf
set_option linter.unusedVariables false
set_option linter.unusedSimpArgs false

theorem bu_103_1_2_3 (x0 : Int) (x1 : Int) (x2 : Option Addr) (x3 : Nat) (x4 : Nat) : Tryz.prog.built 103 [(1, .int .i64 x0), (2, .int .i64 x1), (3, .slice x2 x3 x4)] = some [.bool false, .int .i64 x0, .int .i64 x1, .slice x2 x3 x4, .slice none 0 0].toArray := by kernel_rfl
theorem bu_24_0 (x0 : Int) : Tryz.prog.built 24 [(0, .int .i64 x0)] = some [.int .i64 x0, .slice none 0 0].toArray := by kernel_rfl
theorem bu_29_2 (x0 : Int) : Tryz.prog.built 29 [(2, .int .u64 x0)] = some [.bool false, .int .u64 0, .int .u64 x0].toArray := by kernel_rfl
theorem bu_34_0_1_2_3 (x0 : bf) (x1 : Int) (x2 : bf) (x3 : Option Addr) (x4 : Nat) (x5 : Nat) : Tryz.prog.built 34 [(0, .string (ba x0)), (1, .int .i64 x1), (2, .string (ba x2)), (3, .slice x3 x4 x5)] = some [.string (ba x0), .int .i64 x1, .string (ba x2), .slice x3 x4 x5, .string ⟨#[]⟩, .slice none 0 0, .int .u32 0].toArray := by kernel_rfl
theorem ent_13 : Enters Tryz.prog 13 := enters_of Tryz.func13 (by kernel_rfl) rfl
theorem ent_17 : Enters Tryz.prog 17 := enters_of Tryz.func17 (by kernel_rfl) rfl
theorem ent_56 : Enters Tryz.prog 56 := enters_of Tryz.func56 (by kernel_rfl) rfl
theorem ent_66 : Enters Tryz.prog 66 := enters_of Tryz.func66 (by kernel_rfl) rfl
theorem eD : Enters Tryz.prog 67 := enters_of Tryz.func67 (by kernel_rfl) rfl
theorem ent_68 : Enters Tryz.prog 68 := enters_of Tryz.func68 (by kernel_rfl) rfl

def lft (e : En) : Le := ⟨e, none, 0, none, 0⟩
def putEE (es : List En) (x : En) : List En := (ey (es.map lft) (lft x)).map (·.e)
theorem putG_e (x : Le) : ∀ (l : List Le) (d : Bool), (eB x d l).map (·.e) = (eB (lft x.e) d ((l.map (·.e)).map lft)).map (·.e)
  | [], d => by cases d <;> rfl
  | y :: r, d => by
    have ih := fun d => putG_e x r d
    simp only [List.map_cons, eB, List.map_append, ih]
    show _ ++ _ ++ _ = (if (!d && decide (du x.e.host y.e.host ≤ 0)) = true then [lft x.e] else []).map (·.e) ++ (if du x.e.host y.e.host ≠ 0 then [lft y.e] else []).map (·.e) ++ _
    congr 1
    congr 1
    · split <;> rfl
    · split <;> rfl
theorem putE_e (l : List Le) (x : Le) : (ey l x).map (·.e) = putEE (l.map (·.e)) x.e := putG_e x l false
theorem lft_e (es : List En) : (es.map lft).map (·.e) = es := by
  rw [List.map_map]; exact List.map_id'' (fun _ => rfl) es
theorem getD_e (l : List Le) (i : Nat) : (l.getD i br).e = (l.map (·.e)).getD i en0 := by
  rw [List.getD_eq_getElem?_getD, List.getD_eq_getElem?_getD, List.getElem?_map]
  cases l[i]? <;> rfl
theorem entsCk_e : ∀ l l' : List Le, l.map (·.e) = l'.map (·.e) → dL l = dL l'
  | [], [], _ => rfl
  | [], _ :: _, h => by cases h
  | _ :: _, [], h => by cases h
  | x :: r, y :: s, h => by
    rw [List.map_cons, List.map_cons, List.cons.injEq] at h
    rw [dL, dL, h.1, entsCk_e r s h.2]
theorem tab_e (v : Int) {l l' : List Le} (h : l.map (·.e) = l'.map (·.e)) : bO v l = bO v l' := by
  have h1 : l.length = l'.length := by have := congrArg List.length h; simpa using this
  have h2 : ig l ↔ ig l' := by
    unfold ig
    rw [h1]
    simp only [getD_e, h]
  unfold bO
  rw [h1, entsCk_e l l' h]
  simp only [h2]
/-- An entry of few octets. -/
def smE (e : En) : Bool := decide (e.host.length ≤ 300) && decide (e.alias.length ≤ 300) && decide (e.cluster.length ≤ 300) && decide (e.addrs.length ≤ 20) && decide (e.ports.length ≤ 20) && decide (0 ≤ e.kind ∧ e.kind ≤ 9) && decide (0 ≤ e.ttl ∧ e.ttl ≤ 1000) && (e.addrs.all fun a => decide (0 ≤ a.hi ∧ a.hi ≤ 1000000) && decide (0 ≤ a.lo ∧ a.lo ≤ 4294967295)) && (e.ports.all fun p => decide (0 ≤ p ∧ p ≤ 1000000))
theorem smE_ok {e : En} (h : smE e = true) : EnOk e ∧ ek e = true := by
  simp only [smE, Bool.and_eq_true, decide_eq_true_eq, List.all_eq_true] at h
  obtain ⟨⟨⟨⟨⟨⟨⟨⟨h1, h2⟩, h3⟩, h4⟩, h5⟩, h6⟩, h7⟩, h8⟩, h9⟩ := h
  refine ⟨⟨by omega, by omega, by omega, fun a ha => ?_, by omega, by omega, fun p hp => by have := h9 p hp; omega, by omega, h7.1, by omega⟩, ?_⟩
  · have := h8 a ha
    refine ⟨this.1.1, ?_, this.2.1, ?_⟩ <;> omega
  · simp only [ek, Bool.and_eq_true, decide_eq_true_eq]
    exact ⟨⟨⟨⟨h1, h2⟩, h3⟩, h4⟩, h5⟩
theorem sm_tb {l : List Le} (h : (l.map (·.e)).all smE = true) : TbOk l := fun x hx => smE_ok (List.all_eq_true.1 h _ (List.mem_map.2 ⟨x, hx, rfl⟩))
def fxE (h : bf) (i : Nat) : En := ⟨h, 1, [120], [⟨false, 0, (i : Int) + 1⟩], [], [], 0⟩
abbrev fxL (h : bf) (i : Nat) (A : Option Addr) (c : Nat) : Le := ⟨fxE h i, A, c, none, 0⟩
def tabN (hs : List bf) : Nat → List En
  | 0 => []
  | i + 1 => putEE (tabN hs i) (fxE (hs.getD i []) i)
def fit18 (hs : List bf) : Bool := decide (hs.length ≤ 100) && (List.range (hs.length + 1)).all fun i => decide (bO (1 + (i : Int)) ((tabN hs i).map lft) = 0) && ((tabN hs i).all smE && (smE (fxE (hs.getD i []) i) && (decide (i = hs.length) || decide (cJ (fxE (hs.getD i []) i) = 0))))
structure Fit18 (hs : List bf) : Prop where
  len : hs.length ≤ 100
  ck : ∀ i, i ≤ hs.length → bO (1 + (i : Int)) ((tabN hs i).map lft) = 0
  sm : ∀ i, i ≤ hs.length → (tabN hs i).all smE = true
  smx : ∀ i, i < hs.length → smE (fxE (hs.getD i []) i) = true
  ent : ∀ i, i < hs.length → cJ (fxE (hs.getD i []) i) = 0
theorem fit18_ok {hs : List bf} (h : fit18 hs = true) : Fit18 hs := by
  simp only [fit18, Bool.and_eq_true, List.all_eq_true, decide_eq_true_eq, List.mem_range, Bool.or_eq_true] at h
  refine ⟨h.1, fun i hi => (h.2 i (by omega)).1, fun i hi => ?_, fun i hi => (h.2 i (by omega)).2.2.1, fun i hi => ?_⟩
  · exact List.all_eq_true.2 (h.2 i (by omega)).2.1
  · rcases (h.2 i (by omega)).2.2.2 with h1 | h1
    · omega
    · exact h1
theorem Hp.rallSub {ok0 : Nat → Prop} {w0 w : World} {M M' L S : List Ch} (h : Hp ok0 w0 (Ch.rall M :: L) S w) (hs : ∀ c ∈ M', c ∈ M) : Hp ok0 w0 (Ch.rall M' :: L) S w :=
  h.turn (c' := Ch.rall M') .z (fun hp d hd => hp d (hs d hd)) (fun b ⟨d, hd, hb⟩ => ⟨d, hs d hd, hb⟩)
theorem putE_sub {tl : List Le} {x : Le} : ∀ c ∈ (ey tl x).flatMap e6, c ∈ tl.flatMap e6 ++ e6 x := fun c hc => by
  obtain ⟨y, hy, hc⟩ := List.mem_flatMap.1 hc
  rcases putG_mem hy with e | h2
  · rw [e] at hc; exact List.mem_append_right _ hc
  · exact List.mem_append_left _ (List.mem_flatMap.2 ⟨y, h2, hc⟩)
theorem Hp.tabStep {ok0 : Nat → Prop} {w0 w : World} {tl : List Le} {gm : bf} {i : Nat} {A An Ao P : Option Addr} {c cn co pc : Nat} {T1 T3 : TypeId} {R : Ch} {L S : List Ch}
    (h : Hp ok0 w0 (Ch.ls An cn T1 7 dB (ey tl (fxL gm i A c)) :: Ch.ls P pc T1 7 dB [fxL gm i A c] :: Ch.ls A c T3 3 dT [(⟨false, 0, (i : Int) + 1⟩ : Ad)] :: Ch.rall (tl.flatMap e6) :: Ch.ls Ao co T1 7 dB tl :: R :: L) S w) :
    Hp ok0 w0 (Ch.rall ((ey tl (fxL gm i A c)).flatMap e6) :: Ch.ls An cn T1 7 dB (ey tl (fxL gm i A c)) :: R :: L) S w := by
  have h1 := (h.weak (L' := Ch.ls An cn T1 7 dB (ey tl (fxL gm i A c)) :: Ch.ls A c T3 3 dT [(⟨false, 0, (i : Int) + 1⟩ : Ad)] :: Ch.rall (tl.flatMap e6) :: R :: L) (.cons_cons _ (.cons _ (.cons_cons _ (.cons_cons _ (.cons _ (List.Sublist.refl _)))))) (fun s hs => hs))
  have h2 := h1.perm (L' := Ch.ls A c T3 3 dT [(⟨false, 0, (i : Int) + 1⟩ : Ad)] :: Ch.rall (tl.flatMap e6) :: Ch.ls An cn T1 7 dB (ey tl (fxL gm i A c)) :: R :: L) (List.perm_middle (l₁ := [Ch.ls A c T3 3 dT [(⟨false, 0, (i : Int) + 1⟩ : Ad)], Ch.rall (tl.flatMap e6)]))
  have h3 := h2.nilsl T1 1
  exact (Hp.intoE (e := fxE gm i) (A := A) (c := c) (B := none) (d := 0) (T1 := T1) (T2 := T3) h3).rallSub putE_sub
theorem rd_one {w : World} {x : Le} (h1 : (Ch.rd x.A 3 dT x.e.addrs).P w ∧ ∀ b, (Ch.rd x.A 3 dT x.e.addrs).ok b → b < w.heap.size) (h2 : (Ch.rd x.B 1 eX x.e.ports).P w ∧ ∀ b, (Ch.rd x.B 1 eX x.e.ports).ok b → b < w.heap.size) : (Ch.rall ([x].flatMap e6)).P w ∧ ∀ b, (Ch.rall ([x].flatMap e6)).ok b → b < w.heap.size := rd_rall (aO h1 (aO h2 bd))
theorem tb_one {x : Le} (h : smE x.e = true) : TbOk [x] := fun y hy => by rw [List.mem_singleton] at hy; subst hy; exact smE_ok h

theorem dY (ls : List bf) (A : Option Addr) (ca : Nat) (hl : ls.length ≤ 1000000000000) : RC Tryz.prog 67 #[.slice A ls.length ca] [Ch.rd A 1 d9 ls] (α := Unit) (fun _ => .string (ba (eh ls).1)) (fun _ => []) := by
 refine bx (args := [.slice A ls.length ca]) 11 Tryz.func67 rfl rfl rfl (fun w0 => ?_)
 refine ar ?_
 refine ai ?_
 refine au (ao rfl) rfl rfl ?_
 refine ah ?_
 refine aq ?_
 refine ar ?_
 refine ai ?_
 refine au (ap rfl) rfl rfl ?_
 refine bp rfl ent_143 rfl (jr _ _ _ (by omega)) (fun w hw => (aO (bJ 0 rfl hw) bd)) ?_
 refine au (ap rfl) rfl rfl ?_
 refine au (aP rfl rfl) rfl rfl ?_
 refine au (aP rfl rfl) rfl rfl ?_
 refine au (ao rfl) rfl rfl ?_
 refine au (ao rfl) rfl rfl ?_
 refine ah ?_
 refine aq ?_
 refine ar ?_
 refine ai ?_
 refine au (ap rfl) rfl rfl ?_
 refine au (ao rfl) rfl rfl ?_
 refine ah ?_
 refine aq ?_
 refine aQ ?_
 refine aV (ts := [2]) rfl rfl rfl (fun w hw => ?_)
 exact ⟨(), rfl, hw.base, (hw.weak (List.nil_sublist _) (fun s hs => hs)).toNews⟩

set_option maxRecDepth 100000 in
set_option maxHeartbeats 4000000 in
theorem c_table18 (hs : List bf) (A : Option Addr) (ca : Nat) (hf : Fit18 hs) : RC Tryz.prog 66 #[.slice A hs.length ca] [Ch.rd A 1 d9 hs] (α := {o : List Le × Option Addr × Nat // o.1.map (·.e) = tabN hs hs.length}) (fun o => .agg (iM (1 + (hs.length : Int)) o.1.2.1 o.1.1.length o.1.2.2).toArray) (fun o => [Ch.rall (o.1.1.flatMap e6), Ch.ls o.1.2.1 o.1.2.2 34 7 dB o.1.1]) := by
 refine bx (args := [.slice A hs.length ca]) 35 Tryz.func66 rfl rfl rfl (fun w0 => ?_)
 have hfl := hf.len
 refine ar ?_
 refine ai ?_
 refine bj dh rfl rfl (fun b1 => ?_)
 refine ah ?_
 refine aq ?_
 refine ar ?_
 refine ai ?_
 refine au (dW rfl (bu_24_0 _)) rfl rfl ?_
 refine bj dh rfl rfl (fun b2 => ?_)
 refine a0 dh rfl rfl rfl .z rfl rfl rfl rfl ?_
 refine ah ?_
 refine aq ?_
 refine ar ?_
 refine ar ?_
 refine ai ?_
 refine au (ao rfl) rfl rfl ?_
 refine ah ?_
 refine aq ?_
 refine aW ?_
 refine bF (fun w h => h.nilsl 34 7) ?_
 refine bF (fun w h => h.rall0) ?_
 refine w_loopL (σ := Nat × List Le × Option Addr × Nat) [4, 6, 7, 8, 9, 10, 11, 12, 13, 14, 15, 16, 17, 18, 19, 20, 21, 22, 23, 24, 25, 26, 27, 28, 29, 30, 31, 32, 33] (fun q => q.1 ≤ hs.length ∧ q.2.1.map (·.e) = tabN hs q.1) (fun q => hs.length - q.1) (fun q => [(4, .int .i64 q.1)]) (fun q => [Ch.rall (q.2.1.flatMap e6), Ch.ls q.2.2.1 q.2.2.2 34 7 dB q.2.1, Ch.row b2 (iM (1 + (q.1 : Int)) q.2.2.1 q.2.1.length q.2.2.2) 24, Ch.row b1 (iM 0 none 0 0) 24]) ((0, [], none, 0)) ?_ ⟨rfl, trivial⟩ rfl (fun q hI => ?_)
 ·exact ⟨Nat.zero_le _, rfl⟩
 obtain ⟨i, tl, Ae, ce⟩ := q
 dsimp only at hI ⊢
 refine ar ?_
 refine ar ?_
 refine ai ?_
 refine au (ap rfl) rfl rfl ?_
 refine au (ap rfl) rfl rfl ?_
 refine au (bg Tryz.underlying59 rfl) rfl rfl ?_
 refine au (bI rfl rfl) rfl rfl ?_
 refine aB (t := 9) rfl (fun h3_3 => ?_) (fun h3_3 => ?_)
 ·skip
  have hi : i < hs.length := by omega
  have htb : bO (1 + (i : Int)) tl = 0 := by rw [tab_e _ (hI.2.trans (lft_e _).symm)]; exact hf.ck i (by omega)
  have hTb : TbOk tl := sm_tb (by rw [hI.2]; exact hf.sm i (by omega))
  have hck := htb
  have hsz : ∀ A c, (gb (if false = true then [] else tl) [fxL (hs.getD i []) i A c]).length ≤ 256 := fun A c => by
    have h1 := (iz (hf.ck (i + 1) (by omega))).2.2.1
    rw [List.length_map] at h1
    have h2 : (ey tl (fxL (hs.getD i []) i A c)).map (·.e) = tabN hs (i + 1) := by rw [putE_e, hI.2]; rfl
    have h3 := congrArg List.length h2
    rw [List.length_map] at h3
    show (ey tl _).length ≤ 256
    omega
  have htl : tl.length ≤ 256 := (iz htb).2.2.1
  refine ah ?_
  refine aq ?_
  refine aA rfl ?_
  refine aS ?_
  refine aq ?_
  refine ar ?_
  refine aW ?_
  refine dO 22 rfl cu ?_
  refine a2 (i := 0) rfl aj (a6 2 dh rfl rfl rfl rfl) aE aE rfl (ae (aa (ak (ae (aa av))))) (by kernel_rfl) rfl ?_
  refine a2 (i := 1) rfl aj (aD eQ rfl) aE aE rfl (ae (aa (ak (ae (aa av))))) (by kernel_rfl) rfl ?_
  refine a2 (i := 2) rfl aj (aM 2 de rfl rfl rfl) aE aE rfl (ae (aa (ak (ae (aa av))))) (by kernel_rfl) rfl ?_
  refine a2 (i := 3) rfl aj (aD eQ rfl) aE aE rfl (ae (aa (ak (ae (aa av))))) (by kernel_rfl) rfl ?_
  refine a2 (i := 4) rfl aj (aM 2 de rfl rfl rfl) aE aE rfl (ae (aa (ak (ae (aa av))))) (by kernel_rfl) rfl ?_
  refine a2 (i := 5) rfl aj (bl rfl rfl (by omega) (by omega)) aE aE rfl (ae (aa (ak (ae (aa av))))) (by kernel_rfl) rfl ?_
  refine a2 (i := 6) rfl aj (ap rfl) aE aE rfl (ae (aa (ak (ae (aa av))))) (by kernel_rfl) rfl ?_
  refine a2 (i := 7) rfl aj (ap rfl) aE aE rfl (ae (aa (ak (ae (aa av))))) (by kernel_rfl) rfl ?_
  refine a2 (i := 8) rfl aj (bz  Tryz.underlying59 bN rfl rfl (bE 0 rfl) rfl (by omega)) aE aE rfl (ae (aa (ak (ae (aa av))))) (by kernel_rfl) rfl ?_
  refine a2 (i := 9) rfl aj (cf ct ([] : bf) bN rfl (bE 0 rfl) (by omega) rfl rfl) aE aE rfl (ae (aa (ak (ae (aa av))))) (by kernel_rfl) rfl ?_
  refine a2 (i := 10) rfl aj (ap rfl) aE aE rfl (ae (aa (ak (ae (aa av))))) (by kernel_rfl) rfl ?_
  refine a2 (i := 11) rfl aj (bl rfl rfl (by omega) (by omega)) aE aE rfl (ae (aa (ak (ae (aa av))))) (by kernel_rfl) rfl ?_
  refine a2 (i := 12) rfl aj (jQ Tryz.underlying3 Tryz.underlying27 rfl (wrap_u64 (by omega) (by omega))) aE aE rfl (ae (aa (ak (ae (aa av))))) (by kernel_rfl) rfl ?_
  refine a2 (i := 13) rfl aj (dW rfl (bu_29_2 _)) aE aE rfl (ae (aa (ak (ae (aa av))))) (by kernel_rfl) rfl ?_
  refine bk (i := 14) rfl rfl rfl (fun _ _ _ => aN (by kernel_rfl)) (by kernel_rfl) rfl ?_
  refine cD (vs := [_]) ([(⟨false, 0, (i : Int) + 1⟩ : Ad)] : List (Ad)) dI Tryz.underlying30 bu rfl rfl rfl rfl rfl rfl (fun As3 => ?_)
  refine ah ?_
  refine bv (fun w h => h.weak (.cons _ (List.Sublist.refl _)) (fun s hs => hs)) ?_
  refine a2 (i := 15) rfl aj (dW rfl (bu_34_0_1_2_3 _ _ _ _ _ _)) (fun w h => h.weak (.cons _ (List.Sublist.refl _)) (fun s hs => hs)) aE rfl (ae (aa (ak (ae (aa av))))) (by kernel_rfl) rfl ?_
  refine bk (i := 16) rfl rfl rfl (fun _ _ _ => aN (by kernel_rfl)) (by kernel_rfl) rfl ?_
  refine cD (vs := [_]) ([(fxL (hs.getD i []) i As3 1)] : List (Le)) cj Tryz.underlying22 aR rfl rfl rfl rfl rfl rfl (fun As4 => ?_)
  refine ah ?_
  refine bv (fun w h => h.weak (.cons _ (.cons _ (List.Sublist.refl _))) (fun s hs => hs)) ?_
  refine a2 (i := 17) rfl aj (dW rfl (bu_103_1_2_3 _ _ _ _ _)) (fun w h => h.weak (.cons _ (.cons _ (List.Sublist.refl _))) (fun s hs => hs)) aE rfl (ae (aa (ak (ae (aa av))))) (by kernel_rfl) rfl ?_
  refine bk (i := 18) rfl rfl rfl (bm rfl ent_56) (by kernel_rfl) rfl ?_
  refine bM rfl ent_56 rfl (c_Apply0 (1 + (i : Int)) tl Ae ce false (1 + (i : Int)) (1 + (i : Int) + 1) [(fxL (hs.getD i []) i As3 1)] _ _ none 0 hTb (by omega) hck ⟨by omega, by omega⟩ nofun (fun _ => rfl) (tb_one (hf.smx i hi)) (by simp) (fun y hy => by rw [List.mem_singleton] at hy; subst hy; exact hf.ent i hi) (by simp) (hsz _ _)) (fun w hw => (aO (dD 3 rfl hw) (aO (dC 2 rfl hw) (aO (dD 0 rfl hw) (aO (rd_one (x := (fxL (hs.getD i []) i As3 1)) (dD 1 rfl hw) ju) bd))))) (fun ⟨A4, c4⟩ => ?_)
  refine ah ?_
  refine bv (fun w h => h.weak (.cons _ (.cons _ (.cons _ (List.Sublist.refl _)))) (fun s hs => hs)) ?_
  refine a2 (i := 19) rfl aj (ap rfl) (fun w h => h.weak (.cons _ (.cons _ (.cons _ (List.Sublist.refl _)))) (fun s hs => hs)) aE rfl (ae (aa (ak (ae (aa av))))) (by kernel_rfl) rfl ?_
  refine a2 (i := 20) rfl aj (aP rfl rfl) (fun w h => h.weak (.cons _ (.cons _ (.cons _ (List.Sublist.refl _)))) (fun s hs => hs)) aE rfl (ae (aa (ak (ae (aa av))))) (by kernel_rfl) rfl ?_
  refine cA (js := [21, 22]) (by kernel_rfl) rfl ?_
  refine bi (i := 21) rfl rfl rfl (fun _ _ _ => aN (by kernel_rfl)) rfl ?_ ?_
  ·skip
   refine au (aP rfl rfl) rfl rfl ?_
   refine ah ?_
   refine bv (fun w h => h.weak (.cons _ (.cons _ (.cons _ (List.Sublist.refl _)))) (fun s hs => hs)) ?_
   refine bk (i := 22) rfl rfl rfl (fun _ _ _ => aN (by kernel_rfl)) (by kernel_rfl) rfl ?_
   refine a0 dh rfl rfl rfl (.s (.s (.s (.s (.s (.z)))))) rfl rfl rfl rfl ?_
   refine ah ?_
   refine a4 rfl ?_
   refine bP (by kernel_rfl) ?_
   refine bo ?_
   refine aq ?_
   refine ai ?_
   refine au (ap rfl) rfl rfl ?_
   refine au (bl rfl rfl (by omega) (by omega)) rfl rfl ?_
   refine au (ao rfl) rfl rfl ?_
   refine ah ?_
   refine bq ((i + 1, ey tl (fxL (hs.getD i []) i As3 1), A4, c4)) ?_ ?_ ⟨rfl, trivial⟩ (by repeat (first | exact trivial | refine ⟨rfl, ?_⟩)) (fun w h => by
  have h9 := h.tabStep
  rw [show (((i + 1 : Nat) : Int)) = (i : Int) + 1 by omega, show 1 + ((i : Int) + 1) = 1 + (i : Int) + 1 by omega]
  exact h9)
   ·exact ⟨by show i + 1 ≤ _; omega, by show (ey tl (fxL (hs.getD i []) i As3 1)).map _ = putEE _ _; rw [putE_e, hI.2]⟩
   ·show hs.length - (i + 1) < hs.length - i
    omega
  refine bi (i := 22) rfl rfl rfl (fun _ _ _ => aN (by kernel_rfl)) rfl ?_ ?_
  ·skip
   refine a0 dh rfl rfl rfl (.s (.s (.s (.s (.s (.z)))))) rfl rfl rfl rfl ?_
   refine ah ?_
   refine a4 rfl ?_
   refine bk (i := 21) rfl rfl rfl (fun _ _ _ => aN (by kernel_rfl)) (by kernel_rfl) rfl ?_
   refine au (aP rfl rfl) rfl rfl ?_
   refine ah ?_
   refine a4 rfl ?_
   refine bP (by kernel_rfl) ?_
   refine bo ?_
   refine aq ?_
   refine ai ?_
   refine au (ap rfl) rfl rfl ?_
   refine au (bl rfl rfl (by omega) (by omega)) rfl rfl ?_
   refine au (ao rfl) rfl rfl ?_
   refine ah ?_
   refine bq ((i + 1, ey tl (fxL (hs.getD i []) i As3 1), A4, c4)) ?_ ?_ ⟨rfl, trivial⟩ (by repeat (first | exact trivial | refine ⟨rfl, ?_⟩)) (fun w h => by
  have h9 := h.tabStep
  rw [show (((i + 1 : Nat) : Int)) = (i : Int) + 1 by omega, show 1 + ((i : Int) + 1) = 1 + (i : Int) + 1 by omega]
  exact h9)
   ·exact ⟨by show i + 1 ≤ _; omega, by show (ey tl (fxL (hs.getD i []) i As3 1)).map _ = putEE _ _; rw [putE_e, hI.2]⟩
   ·show hs.length - (i + 1) < hs.length - i
    omega
  exact ci
 ·skip
  refine ah ?_
  refine aq ?_
  refine aC rfl ?_
  refine bw ?_
  refine aY ?_
  refine aZ ?_
  refine a7 ?_
  refine aq ?_
  refine ar ?_
  refine ai ?_
  refine au (a6 2 dh rfl rfl rfl rfl) rfl rfl ?_
  refine a0 dh rfl rfl rfl (.s (.s (.s (.z)))) rfl rfl rfl rfl ?_
  refine ah ?_
  refine aq ?_
  refine aQ ?_
  refine ed (rs := [.cell 2 24]) rfl (cF 3 dh rfl rfl rfl rfl dp) rfl (fun w hw => ?_)
  obtain rfl : i = hs.length := by omega
  exact ⟨⟨(tl, Ae, ce), hI.2⟩, rfl, hw.base, (hw.weak (.cons_cons _ (.cons_cons _ (.cons _ (.cons _ .slnil)))) (fun s hs => hs)).toNews⟩

theorem t18_tb {hs : List bf} (hf : Fit18 hs) {tl : List Le} (h : tl.map (·.e) = tabN hs hs.length) : TbOk tl := sm_tb (by rw [h]; exact hf.sm _ (Nat.le_refl _))
theorem t18_ck {hs : List bf} (hf : Fit18 hs) {tl : List Le} (h : tl.map (·.e) = tabN hs hs.length) : bO (1 + (hs.length : Int)) tl = 0 := by rw [tab_e _ (h.trans (lft_e _).symm)]; exact hf.ck _ (Nat.le_refl _)
theorem t18_len {hs : List bf} (hf : Fit18 hs) {tl : List Le} (h : tl.map (·.e) = tabN hs hs.length) : tl.length ≤ 1000000000 := by have := (iz (t18_ck hf h)).2.2.1; omega
theorem find_e {l : List Le} {x : Ixd} (h : IxOk l x) (n : bf) : ((dd x.hm n).getD br).e = (findE (l.map (·.e)) n).getD en0 := by
  rw [← h.es, ← find_E h.hm]; cases dd x.hm n <;> rfl
theorem find_s {l : List Le} {x : Ixd} (h : IxOk l x) (n : bf) : (dd x.hm n).isSome = (findE (l.map (·.e)) n).isSome := by
  rw [← h.es, ← find_E h.hm]; cases dd x.hm n <;> rfl
theorem ix_len {l : List Le} {x : Ixd} (h : IxOk l x) : x.l.length = l.length := by have := congrArg List.length h.es; simpa using this
theorem es_len {l : List Le} {es : List En} (h : l.map (·.e) = es) : l.length = es.length := by rw [← h, List.length_map]
def hl1 : List bf := [(eh [[97], [98]]).1, (eh [[42], [98]]).1, (eh [[42], [99], [98]]).1]
theorem fit_hl1 : Fit18 hl1 := fit18_ok (by decide +kernel)
theorem rd_sub {w : World} {M M' : List Ch} (h : (Ch.rall M).P w ∧ ∀ b, (Ch.rall M).ok b → b < w.heap.size) (hs : ∀ c ∈ M', c ∈ M) : (Ch.rall M').P w ∧ ∀ b, (Ch.rall M').ok b → b < w.heap.size := ⟨fun c hc => h.1 c (hs c hc), fun b ⟨c, hc, hb⟩ => h.2 b ⟨c, hs c hc, hb⟩⟩

set_option maxRecDepth 100000 in
set_option maxHeartbeats 4000000 in
theorem c_lives18  : dQ Tryz.prog 9 #[] (.bool true) := by
 intro w0
 refine bH (ok0 := no) (S := []) (args := []) 101 Tryz.func9 rfl rfl rfl (by simp) (by simp) ?_
 refine ar ?_
 refine ai ?_
 refine au (ao rfl) rfl rfl ?_
 refine ah ?_
 refine aq ?_
 refine ar ?_
 refine ai ?_
 refine cD (vs := [_, _]) ([[97], [98]] : List (bf)) ct Tryz.underlying135 cB rfl rfl rfl rfl rfl rfl (fun As1 => ?_)
 refine bp rfl eD rfl (dY _ _ _ (by decide)) (fun w hw => (aO (dD 0 rfl hw) bd)) ?_
 refine cD (vs := [_, _]) ([[42], [98]] : List (bf)) ct Tryz.underlying135 cB rfl rfl rfl rfl rfl rfl (fun As2 => ?_)
 refine bp rfl eD rfl (dY _ _ _ (by decide)) (fun w hw => (aO (dD 0 rfl hw) bd)) ?_
 refine cD (vs := [_, _, _]) ([[42], [99], [98]] : List (bf)) ct Tryz.underlying135 cB rfl rfl rfl rfl rfl rfl (fun As3 => ?_)
 refine bp rfl eD rfl (dY _ _ _ (by decide)) (fun w hw => (aO (dD 0 rfl hw) bd)) ?_
 refine cD (vs := [_, _, _]) (hl1 : List (bf)) ct Tryz.underlying59 bN rfl rfl rfl rfl rfl rfl (fun As4 => ?_)
 refine gH rfl ent_66 rfl (c_table18 hl1 _ _ fit_hl1) (fun w hw => (aO (dD 0 rfl hw) bd)) (fun ⟨⟨tl, Ae, ce⟩, htl⟩ => ?_)
 refine bM rfl ent_13 rfl (c_index_New0 (1 + (hl1.length : Int)) tl _ _ (t18_tb fit_hl1 htl) (t18_len fit_hl1 htl) (t18_ck fit_hl1 htl)) (fun w hw => (aO (dD 1 rfl hw) (aO (dC 0 rfl hw) bd))) (fun ⟨ix, hix⟩ => ?_)
 refine au (ap rfl) rfl rfl ?_
 refine au (aP rfl rfl) rfl rfl ?_
 refine au (aP rfl rfl) rfl rfl ?_
 refine au (ao rfl) rfl rfl ?_
 refine au (ao rfl) rfl rfl ?_
 refine ah ?_
 refine aq ?_
 refine ar ?_
 refine ar ?_
 refine ai ?_
 refine au (ap rfl) rfl rfl ?_
 refine au (bX rfl rfl) rfl rfl ?_
 refine dJ (t := 26) rfl (fun h => h rfl) ?_
 refine au (ap rfl) rfl rfl ?_
 refine az rfl rfl ?_
 refine au (ap rfl) rfl rfl ?_
 refine az rfl rfl ?_
 refine au (gr Tryz.underlying39 rfl rfl) rfl rfl ?_
 refine cU (t := 29) (.bool false) rfl (congrArg Value.bool rfl) ?_
 refine au (aI rfl rfl) rfl rfl ?_
 refine ah ?_
 refine aq ?_
 refine aC rfl ?_
 refine aS ?_
 refine aq ?_
 refine ar ?_
 refine ai ?_
 refine au (ap rfl) rfl rfl ?_
 refine cD (vs := [_, _]) ([[65], [98]] : List (bf)) ct Tryz.underlying135 cB rfl rfl rfl rfl rfl rfl (fun As7 => ?_)
 refine bp rfl eD rfl (dY _ _ _ (by decide)) (fun w hw => (aO (dD 0 rfl hw) bd)) ?_
 refine bp rfl ent_17 rfl (c_Find ix (eh [[65], [98]]).1) (fun w hw => (aO (bG (dC 1 rfl hw) (.head _)) (aO (bG (dC 1 rfl hw) (.tail _ (.tail _ (.head _)))) bd))) ?_
 refine au (ap rfl) rfl rfl ?_
 refine au (aP rfl rfl) rfl rfl ?_
 refine au (aP rfl rfl) rfl rfl ?_
 refine bj aR rfl rfl (fun b8 => ?_)
 refine a0 aR rfl rfl rfl .z rfl rfl rfl rfl ?_
 refine au (ao rfl) rfl rfl ?_
 refine ah ?_
 refine aq ?_
 refine ar ?_
 refine ai ?_
 refine au (ap rfl) rfl rfl ?_
 refine cD (vs := [_, _]) ([[120], [98]] : List (bf)) ct Tryz.underlying135 cB rfl rfl rfl rfl rfl rfl (fun As9 => ?_)
 refine bp rfl eD rfl (dY _ _ _ (by decide)) (fun w hw => (aO (dD 0 rfl hw) bd)) ?_
 refine bp rfl ent_17 rfl (c_Find ix (eh [[120], [98]]).1) (fun w hw => (aO (bG (dC 3 rfl hw) (.head _)) (aO (bG (dC 3 rfl hw) (.tail _ (.tail _ (.head _)))) bd))) ?_
 refine au (ap rfl) rfl rfl ?_
 refine au (aP rfl rfl) rfl rfl ?_
 refine au (aP rfl rfl) rfl rfl ?_
 refine bj aR rfl rfl (fun b10 => ?_)
 refine a0 aR rfl rfl rfl .z rfl rfl rfl rfl ?_
 refine au (ao rfl) rfl rfl ?_
 refine ah ?_
 refine aq ?_
 refine ar ?_
 refine ai ?_
 refine au (ap rfl) rfl rfl ?_
 refine cD (vs := [_, _, _]) ([[120], [99], [98]] : List (bf)) ct Tryz.underlying135 cB rfl rfl rfl rfl rfl rfl (fun As11 => ?_)
 refine bp rfl eD rfl (dY _ _ _ (by decide)) (fun w hw => (aO (dD 0 rfl hw) bd)) ?_
 refine bp rfl ent_17 rfl (c_Find ix (eh [[120], [99], [98]]).1) (fun w hw => (aO (bG (dC 5 rfl hw) (.head _)) (aO (bG (dC 5 rfl hw) (.tail _ (.tail _ (.head _)))) bd))) ?_
 refine au (ap rfl) rfl rfl ?_
 refine au (aP rfl rfl) rfl rfl ?_
 refine au (aP rfl rfl) rfl rfl ?_
 refine bj aR rfl rfl (fun b12 => ?_)
 refine a0 aR rfl rfl rfl .z rfl rfl rfl rfl ?_
 refine au (ao rfl) rfl rfl ?_
 refine ah ?_
 refine aq ?_
 refine ar ?_
 refine ai ?_
 refine au (ap rfl) rfl rfl ?_
 refine cD (vs := [_, _]) ([[99], [98]] : List (bf)) ct Tryz.underlying135 cB rfl rfl rfl rfl rfl rfl (fun As13 => ?_)
 refine bp rfl eD rfl (dY _ _ _ (by decide)) (fun w hw => (aO (dD 0 rfl hw) bd)) ?_
 refine bp rfl ent_17 rfl (c_Find ix (eh [[99], [98]]).1) (fun w hw => (aO (bG (dC 7 rfl hw) (.head _)) (aO (bG (dC 7 rfl hw) (.tail _ (.tail _ (.head _)))) bd))) ?_
 refine au (ap rfl) rfl rfl ?_
 refine au (aP rfl rfl) rfl rfl ?_
 refine au (aP rfl rfl) rfl rfl ?_
 refine bj aR rfl rfl (fun b14 => ?_)
 refine a0 aR rfl rfl rfl .z rfl rfl rfl rfl ?_
 refine au (ao rfl) rfl rfl ?_
 refine ah ?_
 refine aq ?_
 refine ar ?_
 refine ai ?_
 refine au (ap rfl) rfl rfl ?_
 refine cD (vs := [_]) ([[98]] : List (bf)) ct Tryz.underlying135 cB rfl rfl rfl rfl rfl rfl (fun As15 => ?_)
 refine bp rfl eD rfl (dY _ _ _ (by decide)) (fun w hw => (aO (dD 0 rfl hw) bd)) ?_
 refine bp rfl ent_17 rfl (c_Find ix (eh [[98]]).1) (fun w hw => (aO (bG (dC 9 rfl hw) (.head _)) (aO (bG (dC 9 rfl hw) (.tail _ (.tail _ (.head _)))) bd))) ?_
 refine au (ap rfl) rfl rfl ?_
 refine au (aP rfl rfl) rfl rfl ?_
 refine au (aP rfl rfl) rfl rfl ?_
 refine cU (t := 65) (.bool false) rfl (congrArg Value.bool (by rw [find_s hix, htl]; decide +kernel)) ?_
 refine bj aR rfl rfl (fun b16 => ?_)
 refine a0 aR rfl rfl rfl .z rfl rfl rfl rfl ?_
 refine au (ao rfl) rfl rfl ?_
 refine ah ?_
 refine aq ?_
 refine ar ?_
 refine dz 36 rfl cu ?_
 refine aF (i := 0) rfl aj (aD cQ rfl) aE aE rfl (aa av) (by as_aux_lemma => kernel_rfl) rfl ?_
 refine aF (i := 1) rfl aj (aM 8 bN rfl rfl rfl) aE aE rfl (aa av) (by as_aux_lemma => kernel_rfl) rfl ?_
 refine cy (i := 2) rfl rfl rfl (fun _ _ _ => aN (by as_aux_lemma => kernel_rfl)) (by as_aux_lemma => kernel_rfl) rfl ?_
 refine cD (vs := [_, _]) ([[97], [98]] : List (bf)) ct Tryz.underlying135 cB rfl rfl rfl rfl rfl rfl (fun As17 => ?_)
 refine ah ?_
 refine cW (fun w h => h.weak (.cons _ (List.Sublist.refl _)) (fun s hs => hs)) ?_
 refine cy (i := 3) rfl rfl rfl (bm rfl eD) (by as_aux_lemma => kernel_rfl) rfl ?_
 refine bp rfl eD rfl (dY _ _ _ (by decide)) (fun w hw => (aO (dD 0 rfl hw) bd)) ?_
 refine ah ?_
 refine cW (fun w h => h.weak (.cons _ (List.Sublist.refl _)) (fun s hs => hs)) ?_
 refine aF (i := 4) rfl aj (d8 rfl rfl) (fun w h => h.weak (.cons _ (List.Sublist.refl _)) (fun s hs => hs)) aE rfl (aa av) (by as_aux_lemma => kernel_rfl) rfl ?_
 refine wa_at (t := 70) rfl (by rw [find_e hix, htl]; decide +kernel) ?_
 refine aF (i := 5) rfl aj (ap rfl) (fun w h => h.weak (.cons _ (List.Sublist.refl _)) (fun s hs => hs)) aE rfl (aa av) (by as_aux_lemma => kernel_rfl) rfl ?_
 refine aF (i := 6) rfl (aJ rfl rfl) (aD cQ rfl) (fun w h => h.weak (.cons _ (List.Sublist.refl _)) (fun s hs => hs)) aE rfl (aa av) (by as_aux_lemma => kernel_rfl) rfl ?_
 refine aF (i := 7) rfl (aJ rfl rfl) (aM 6 bN rfl rfl rfl) (fun w h => h.weak (.cons _ (List.Sublist.refl _)) (fun s hs => hs)) aE rfl (aa av) (by as_aux_lemma => kernel_rfl) rfl ?_
 refine cy (i := 8) rfl rfl rfl (fun _ _ _ => aN (by as_aux_lemma => kernel_rfl)) (by as_aux_lemma => kernel_rfl) rfl ?_
 refine az rfl rfl ?_
 refine cD (vs := [_, _]) ([[42], [98]] : List (bf)) ct Tryz.underlying135 cB rfl rfl rfl rfl rfl rfl (fun As18 => ?_)
 refine ah ?_
 refine cW (fun w h => h.weak (.cons _ (.cons _ (List.Sublist.refl _))) (fun s hs => hs)) ?_
 refine cy (i := 9) rfl rfl rfl (bm rfl eD) (by as_aux_lemma => kernel_rfl) rfl ?_
 refine az rfl rfl ?_
 refine bp rfl eD rfl (dY _ _ _ (by decide)) (fun w hw => (aO (dD 0 rfl hw) bd)) ?_
 refine ah ?_
 refine cW (fun w h => h.weak (.cons _ (.cons _ (List.Sublist.refl _))) (fun s hs => hs)) ?_
 refine aF (i := 10) rfl (aJ rfl rfl) (d8 rfl rfl) (fun w h => h.weak (.cons _ (.cons _ (List.Sublist.refl _))) (fun s hs => hs)) aE rfl (aa av) (by as_aux_lemma => kernel_rfl) rfl ?_
 refine wa_at (t := 76) rfl (by rw [find_e hix, htl]; decide +kernel) ?_
 refine aF (i := 11) rfl aj (aG rfl rfl) (fun w h => h.weak (.cons _ (.cons _ (List.Sublist.refl _))) (fun s hs => hs)) aE rfl (aa av) (by as_aux_lemma => kernel_rfl) rfl ?_
 refine aF (i := 12) rfl aj (ap rfl) (fun w h => h.weak (.cons _ (.cons _ (List.Sublist.refl _))) (fun s hs => hs)) aE rfl (aa av) (by as_aux_lemma => kernel_rfl) rfl ?_
 refine aF (i := 13) rfl (aJ rfl rfl) (aD cQ rfl) (fun w h => h.weak (.cons _ (.cons _ (List.Sublist.refl _))) (fun s hs => hs)) aE rfl (aa av) (by as_aux_lemma => kernel_rfl) rfl ?_
 refine aF (i := 14) rfl (aJ rfl rfl) (aM 4 bN rfl rfl rfl) (fun w h => h.weak (.cons _ (.cons _ (List.Sublist.refl _))) (fun s hs => hs)) aE rfl (aa av) (by as_aux_lemma => kernel_rfl) rfl ?_
 refine cy (i := 15) rfl rfl rfl (fun _ _ _ => aN (by as_aux_lemma => kernel_rfl)) (by as_aux_lemma => kernel_rfl) rfl ?_
 refine az rfl rfl ?_
 refine cD (vs := [_, _, _]) ([[42], [99], [98]] : List (bf)) ct Tryz.underlying135 cB rfl rfl rfl rfl rfl rfl (fun As19 => ?_)
 refine ah ?_
 refine cW (fun w h => h.weak (.cons _ (.cons _ (.cons _ (List.Sublist.refl _)))) (fun s hs => hs)) ?_
 refine cy (i := 16) rfl rfl rfl (bm rfl eD) (by as_aux_lemma => kernel_rfl) rfl ?_
 refine az rfl rfl ?_
 refine bp rfl eD rfl (dY _ _ _ (by decide)) (fun w hw => (aO (dD 0 rfl hw) bd)) ?_
 refine ah ?_
 refine cW (fun w h => h.weak (.cons _ (.cons _ (.cons _ (List.Sublist.refl _)))) (fun s hs => hs)) ?_
 refine aF (i := 17) rfl (aJ rfl rfl) (d8 rfl rfl) (fun w h => h.weak (.cons _ (.cons _ (.cons _ (List.Sublist.refl _)))) (fun s hs => hs)) aE rfl (aa av) (by as_aux_lemma => kernel_rfl) rfl ?_
 refine wa_at (t := 83) rfl (by rw [find_e hix, htl]; decide +kernel) ?_
 refine aF (i := 18) rfl aj (aG rfl rfl) (fun w h => h.weak (.cons _ (.cons _ (.cons _ (List.Sublist.refl _)))) (fun s hs => hs)) aE rfl (aa av) (by as_aux_lemma => kernel_rfl) rfl ?_
 refine aF (i := 19) rfl aj (ap rfl) (fun w h => h.weak (.cons _ (.cons _ (.cons _ (List.Sublist.refl _)))) (fun s hs => hs)) aE rfl (aa av) (by as_aux_lemma => kernel_rfl) rfl ?_
 refine aF (i := 20) rfl (aJ rfl rfl) (aD cQ rfl) (fun w h => h.weak (.cons _ (.cons _ (.cons _ (List.Sublist.refl _)))) (fun s hs => hs)) aE rfl (aa av) (by as_aux_lemma => kernel_rfl) rfl ?_
 refine aF (i := 21) rfl (aJ rfl rfl) (aM 2 bN rfl rfl rfl) (fun w h => h.weak (.cons _ (.cons _ (.cons _ (List.Sublist.refl _)))) (fun s hs => hs)) aE rfl (aa av) (by as_aux_lemma => kernel_rfl) rfl ?_
 refine cy (i := 22) rfl rfl rfl (fun _ _ _ => aN (by as_aux_lemma => kernel_rfl)) (by as_aux_lemma => kernel_rfl) rfl ?_
 refine az rfl rfl ?_
 refine cD (vs := [_, _]) ([[42], [98]] : List (bf)) ct Tryz.underlying135 cB rfl rfl rfl rfl rfl rfl (fun As20 => ?_)
 refine ah ?_
 refine cW (fun w h => h.weak (.cons _ (.cons _ (.cons _ (.cons _ (List.Sublist.refl _))))) (fun s hs => hs)) ?_
 refine cy (i := 23) rfl rfl rfl (bm rfl eD) (by as_aux_lemma => kernel_rfl) rfl ?_
 refine az rfl rfl ?_
 refine bp rfl eD rfl (dY _ _ _ (by decide)) (fun w hw => (aO (dD 0 rfl hw) bd)) ?_
 refine ah ?_
 refine cW (fun w h => h.weak (.cons _ (.cons _ (.cons _ (.cons _ (List.Sublist.refl _))))) (fun s hs => hs)) ?_
 refine aF (i := 24) rfl (aJ rfl rfl) (d8 rfl rfl) (fun w h => h.weak (.cons _ (.cons _ (.cons _ (.cons _ (List.Sublist.refl _))))) (fun s hs => hs)) aE rfl (aa av) (by as_aux_lemma => kernel_rfl) rfl ?_
 refine wa_at (t := 90) rfl (by rw [find_e hix, htl]; decide +kernel) ?_
 refine aF (i := 25) rfl aj (aG rfl rfl) (fun w h => h.weak (.cons _ (.cons _ (.cons _ (.cons _ (List.Sublist.refl _))))) (fun s hs => hs)) aE rfl (aa av) (by as_aux_lemma => kernel_rfl) rfl ?_
 refine aF (i := 26) rfl aj (ap rfl) (fun w h => h.weak (.cons _ (.cons _ (.cons _ (.cons _ (List.Sublist.refl _))))) (fun s hs => hs)) aE rfl (aa av) (by as_aux_lemma => kernel_rfl) rfl ?_
 refine aF (i := 27) rfl (aJ rfl rfl) (ap rfl) (fun w h => h.weak (.cons _ (.cons _ (.cons _ (.cons _ (List.Sublist.refl _))))) (fun s hs => hs)) aE rfl (aa av) (by as_aux_lemma => kernel_rfl) rfl ?_
 refine aF (i := 28) rfl (aJ rfl rfl) (bC rfl) (fun w h => h.weak (.cons _ (.cons _ (.cons _ (.cons _ (List.Sublist.refl _))))) (fun s hs => hs)) aE rfl (aa av) (by as_aux_lemma => kernel_rfl) rfl ?_
 refine aF (i := 29) rfl aj (aG rfl rfl) (fun w h => h.weak (.cons _ (.cons _ (.cons _ (.cons _ (List.Sublist.refl _))))) (fun s hs => hs)) aE rfl (aa av) (by as_aux_lemma => kernel_rfl) rfl ?_
 refine aF (i := 30) rfl aj (ap rfl) (fun w h => h.weak (.cons _ (.cons _ (.cons _ (.cons _ (List.Sublist.refl _))))) (fun s hs => hs)) aE rfl (aa av) (by as_aux_lemma => kernel_rfl) rfl ?_
 refine aF (i := 31) rfl (aJ rfl rfl) (ap rfl) (fun w h => h.weak (.cons _ (.cons _ (.cons _ (.cons _ (List.Sublist.refl _))))) (fun s hs => hs)) aE rfl (aa av) (by as_aux_lemma => kernel_rfl) rfl ?_
 refine cy (i := 32) rfl rfl rfl (bm rfl ent_68) (by as_aux_lemma => kernel_rfl) rfl ?_
 refine az rfl rfl ?_
 refine bp rfl ent_68 rfl (c_Len ix) (fun w hw => (aO (bG (dC 14 rfl hw) (.head _)) bd)) ?_
 refine ah ?_
 refine cW (fun w h => h.weak (.cons _ (.cons _ (.cons _ (.cons _ (List.Sublist.refl _))))) (fun s hs => hs)) ?_
 refine aF (i := 33) rfl (aJ rfl rfl) (dk rfl rfl) (fun w h => h.weak (.cons _ (.cons _ (.cons _ (.cons _ (List.Sublist.refl _))))) (fun s hs => hs)) aE rfl (aa av) (by as_aux_lemma => kernel_rfl) rfl ?_
 refine wa_at (t := 99) rfl (by rw [ix_len hix, es_len htl]; decide +kernel) ?_
 refine aF (i := 34) rfl aj (aG rfl rfl) (fun w h => h.weak (.cons _ (.cons _ (.cons _ (.cons _ (List.Sublist.refl _))))) (fun s hs => hs)) aE rfl (aa av) (by as_aux_lemma => kernel_rfl) rfl ?_
 refine aF (i := 35) rfl aj (ao rfl) (fun w h => h.weak (.cons _ (.cons _ (.cons _ (.cons _ (List.Sublist.refl _))))) (fun s hs => hs)) aE rfl (aa av) (by as_aux_lemma => kernel_rfl) rfl ?_
 refine cp (by as_aux_lemma => kernel_rfl) ?_
 refine aq ?_
 refine aQ ?_
 refine aV (ts := [0]) rfl rfl rfl (fun w hw => ?_)
 exact ⟨rfl, hw.base⟩
end Go.Proofs.YtnpdgmoeoidppaaGreat

/- what an index finds, in plain words -/
namespace Go.Proofs.YtnpdgmoeoidppaaGreat
open Go.RowKit Go.Shelf
set_option linter.unusedVariables false
set_option linter.unusedSimpArgs false

theorem fi_mem {x : Ixd} {l : List Le} (h : IxOk l x) {n : bf} {y : Le} (hf : dd x.hm n = some y) : y ∈ x.l := by
  have look : ∀ {key : bf} {y : Le}, bT x.hm key = some y → y ∈ x.l := fun hl => by
    rw [h.hm] at hl; exact List.mem_of_find?_eq_some hl
  unfold dd at hf
  split at hf
  · cases hf
  · cases h1 : bT x.hm (aX n) with
    | some z => rw [h1] at hf; have : z = y := Option.some.inj hf; subst this; exact look h1
    | none =>
      rw [h1] at hf
      have hf : (fm (aX n)).findSome? (fun p => bT x.hm ([1, 42] ++ p)) = some y := hf
      obtain ⟨_, p, _, _, h2, _⟩ := List.findSome?_eq_some_iff.1 hf
      exact look h2
theorem xl_src {x : Ixd} {l : List Le} (h : IxOk l x) {y : Le} (hy : y ∈ x.l) : ∃ z ∈ l, z.e = y.e := by
  have : y.e ∈ l.map (·.e) := by rw [← h.es]; exact List.mem_map.2 ⟨y, hy, rfl⟩
  obtain ⟨z, hz, e⟩ := List.mem_map.1 this
  exact ⟨z, hz, e⟩
theorem fi_bnd {x : Ixd} {l : List Le} (h : IxOk l x) (hok : TbOk l) {y : Le} (hy : y ∈ br :: x.l) : EnB y.e := by
  rcases List.mem_cons.1 hy with rfl | hy
  · exact ⟨nofun, by decide, by decide, by decide, by decide, by decide⟩
  · obtain ⟨z, hz, e⟩ := xl_src h hy
    exact (hok.mem' hz).eq e.symm
theorem map_some {α β : Type} {o : Option α} {f : α → β} {b : β} (d : α) (h : o.map f = some b) : o.isSome = true ∧ f (o.getD d) = b := by
  cases o with
  | none => cases h
  | some a => exact ⟨rfl, Option.some.inj h⟩
theorem i7 {α : Type} {F : α → Bool} {l : List α} {i : Nat} (hi : i < l.length) (h : ∀ q ∈ l.take i, F q = false) (h2 : F l[i] = true) : l.find? F = some l[i] := by
  have e : l = l.take i ++ l[i] :: l.drop (i + 1) := by rw [← List.drop_eq_getElem_cons hi, List.take_append_drop]
  conv => lhs; rw [e]
  rw [List.find?_append, List.find?_eq_none.2 (fun q hq => by rw [h q hq]; decide), List.find?_cons_of_pos h2]; rfl
theorem held_at {es : List En} {hs : List Hd} (H : bU es hs) {p : Hd} (hp : p ∈ hs) : (a8 p.host = 0 ∧ (∃ e, ee es (aX p.host) = some e ∧ e.kind = 2) ∧ cz p.ad = 0) ∧ hs.find? (fun h => decide (h.ad = p.ad)) = some p ∧ hs.find? (fun h => decide (aX h.host = aX p.host)) = some p := by
  obtain ⟨i, hi, rfl⟩ := List.mem_iff_getElem.1 hp
  have h1 := H i hi
  rw [List.getD_eq_getElem?_getD, List.getElem?_eq_getElem hi] at h1
  obtain ⟨q1, q2, q3, q4, q5⟩ := h1
  exact ⟨⟨q1, q2, q3⟩, i7 hi (fun q hq => decide_eq_false (q5 q hq)) (decide_eq_true rfl), i7 hi (fun q hq => decide_eq_false (q4 q hq)) (decide_eq_true rfl)⟩
theorem own_some {x : Ixd} {h : bf} {y : Le} (hy : ownI x h = some y) : a8 h = 0 ∧ bT x.hm (aX h) = some y := by
  unfold ownI at hy
  split at hy
  · cases hy
  · exact ⟨by omega, hy⟩
theorem hm_mem {m : List (bf × Le)} {lc : List Le} (h : HmOk m lc) {key : bf} {y : Le} (hl : bT m key = some y) : y ∈ lc ∧ aX y.e.host = key := by
  have := jW h (key := key) (by rw [hl]; rfl)
  rw [hl] at this; exact this
theorem ads_len {l : List Le} {x : Ixd} (hx : IxOk l x) (hok : TbOk l) (n : bf) : (i9 x n).length ≤ 1000 := by
  cases ho : ownI x n with
  | none => rw [i9, ho]; exact Nat.zero_le _
  | some y =>
    rw [i9, ho]
    have hb := (fi_bnd hx hok (.tail _ (hm_mem hx.hm (own_some ho).2).1)).la
    show (di y.e (i2 x y)).length ≤ 1000
    unfold di
    split
    · exact Nat.zero_le _
    · split
      · exact hb
      · split
        · exact Nat.zero_le _
        · refine Nat.le_trans (List.length_filter_le _ _) ?_
          unfold i2
          cases bT x.dm (aX y.e.host) <;> simp
theorem fi_mem2 {x : Ixd} {l : List Le} (h : IxOk l x) (n : bf) : (dd x.hm n).getD br ∈ br :: x.l := by
  cases hf : dd x.hm n with
  | none => exact .head _
  | some y => exact .tail _ (fi_mem h hf)
theorem am_mem {l : List Le} {hs : List Hd} {x : Ixd} (hx : IxOk2 l hs x) (a : Ad) : (bT x.am a).getD br ∈ br :: x.l := by
  cases hf : bT x.am a with
  | none => exact .head _
  | some z =>
    refine .tail _ ?_
    rw [hx.am] at hf
    cases hb : (hs.find? fun h => decide (h.ad = a)).bind fun h => bT x.hm (aX h.host) with
    | some y =>
      rw [hb] at hf
      obtain rfl := Option.some.inj hf
      cases hq : hs.find? fun h => decide (h.ad = a) with
      | none => rw [hq] at hb; cases hb
      | some p => rw [hq] at hb; exact (hm_mem hx.ix.hm hb).1
    | none => rw [hb] at hf; exact List.mem_of_find?_eq_some hf
def ixP : Option Ixd → Option Addr
  | some x => some ⟨x.b, 0, none⟩
  | none => none
def ixE : Option Ixd → Int
  | some _ => 0
  | none => 2
theorem ixV_pe (o : Option Ixd) : ixV o = .tuple #[.pointer (ixP o), .int .i64 (ixE o)] := by cases o <;> rfl
end Go.Proofs.YtnpdgmoeoidppaaGreat

/- Parts of slices that are read. -/
namespace Go.Proofs.YtnpdgmoeoidppaaGreat
open Go.RowKit Go.Shelf
set_option linter.unusedVariables false

section
variable {x : Cx} {l : Fr} {L S : List Ch}
end
section
variable {x : Cx} {C : World → Prop} {l : Fr} {L S : List Ch} {Q : Exit → Act → World → Prop} {ops : Array Oper} {fuel m : Nat} {listed : Array Bool}
theorem wu_at {t : Nat} {p : Prop} [Decidable p] (h : look l t = some (.bool (decide p))) (hp : p) (k : WU x C m ops fuel listed ((t, .bool true) :: l) L S Q) : WU x C m ops fuel listed l L S Q := gE (.bool true) h (by rw [decide_eq_true hp]) k
theorem wu_af {t : Nat} {p : Prop} [Decidable p] (h : look l t = some (.bool (decide p))) (hp : ¬ p) (k : WU x C m ops fuel listed ((t, .bool false) :: l) L S Q) : WU x C m ops fuel listed l L S Q := gE (.bool false) h (by rw [decide_eq_false hp]) k
theorem wu_splitb {t : Nat} {b : Bool} (h : look l t = some (.bool b)) (ht : b = true → WU x C m ops fuel listed ((t, .bool true) :: l) L S Q) (hf : b = false → WU x C m ops fuel listed ((t, .bool false) :: l) L S Q) : WU x C m ops fuel listed l L S Q := by
  cases hb : b with
  | true => exact gE (.bool true) h (by rw [hb]) (ht hb)
  | false => exact gE (.bool false) h (by rw [hb]) (hf hb)
theorem wu_splitp {t : Nat} {p : Prop} [Decidable p] (h : look l t = some (.bool (decide p))) (ht : p → WU x C m ops fuel listed ((t, .bool true) :: l) L S Q) (hf : ¬ p → WU x C m ops fuel listed ((t, .bool false) :: l) L S Q) : WU x C m ops fuel listed l L S Q := by
  by_cases hp : p
  · exact wu_at h hp (ht hp)
  · exact wu_af h hp (hf hp)
end
theorem split_at {α : Type} {l : List α} {k : Nat} (d : α) (hk : k < l.length) : l = l.take k ++ l.getD k d :: l.drop (k + 1) := by
  rw [List.getD_eq_getElem?_getD, List.getElem?_eq_getElem hk]
  show l = l.take k ++ l[k] :: l.drop (k + 1)
  rw [← List.drop_eq_getElem_cons hk, List.take_append_drop]
theorem take_succ_getD {α : Type} {l : List α} {k : Nat} (d : α) (hk : k < l.length) : l.take (k + 1) = l.take k ++ [l.getD k d] := by
  rw [List.getD_eq_getElem?_getD, List.getElem?_eq_getElem hk, List.take_succ_eq_append_getElem hk]; rfl
end Go.Proofs.YtnpdgmoeoidppaaGreat
