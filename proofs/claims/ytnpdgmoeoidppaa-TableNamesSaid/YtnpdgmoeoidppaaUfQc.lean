import Derived.Test.YtnpdgmoeoidppaaUcQc
/- a push: the program behind it -/
namespace Go.Proofs.Ytnpdgmoeoidppaa
open Go.RowKit Go.Shelf
set_option linter.unusedVariables false
set_option linter.unusedSimpArgs false

theorem bu_24 : Try.prog.built 24 [] = some [.int .i64 0, .slice none 0 0].toArray := by kernel_rfl
theorem bu_24_0_1 (x0 : Int) (x1 : Option Addr) (x2 : Nat) (x3 : Nat) : Try.prog.built 24 [(0, .int .i64 x0), (1, .slice x1 x2 x3)] = some [.int .i64 x0, .slice x1 x2 x3].toArray := by kernel_rfl
theorem dn : Enters Try.prog 17 := enters_of Try.func17 (by kernel_rfl) rfl
theorem ent_40 : Enters Try.prog 40 := enters_of Try.func40 (by kernel_rfl) rfl
theorem ent_41 : Enters Try.prog 41 := enters_of Try.func41 (by kernel_rfl) rfl
theorem ent_42 : Enters Try.prog 42 := enters_of Try.func42 (by kernel_rfl) rfl
theorem ent_43 : Enters Try.prog 43 := enters_of Try.func43 (by kernel_rfl) rfl
theorem ent_44 : Enters Try.prog 44 := enters_of Try.func44 (by kernel_rfl) rfl
theorem ent_45 : Enters Try.prog 45 := enters_of Try.func45 (by kernel_rfl) rfl
theorem ent_48 : Enters Try.prog 48 := enters_of Try.func48 (by kernel_rfl) rfl
theorem ent_49 : Enters Try.prog 49 := enters_of Try.func49 (by kernel_rfl) rfl
theorem ent_88 : Enters Try.prog 88 := enters_of Try.func88 (by kernel_rfl) rfl
theorem bd : TyI Try.prog 24 true 2 32 (.agg #[.int .i64 0, .slice none 0 0]) := TyI.mk' (by kernel_rfl) (fun _ => by kernel_rfl)
theorem ty_31 : TyI Try.prog 31 false 1 8 (.int .i64 0) := TyI.mk' (by kernel_rfl) (fun _ => by kernel_rfl)

theorem Hp.toRd {α : Type} {enc : α → List Value} {ok0 : Nat → Prop} {w0 w : World} {A : Option Addr} {c sz : Nat} {T : TypeId} {xs : List α} {L S : List Ch} (h : Hp ok0 w0 (Ch.ls A c T sz enc xs :: L) S w) : Hp ok0 w0 L (Ch.rd A sz enc xs :: S) w :=
  (h.turn (c' := Ch.rd A sz enc xs) .z sl_rs.1 (sl_rs (w := w)).2).freeze
theorem Hp.back2 {ok0 : Nat → Prop} {w0 w : World} {a b c d : Ch} {R S : List Ch} (h : Hp ok0 w0 (a :: b :: c :: d :: R) S w) : Hp ok0 w0 ((a :: b :: R) ++ [c, d]) S w :=
  h.perm (.cons _ (.cons _ (List.perm_append_comm (l₁ := R) (l₂ := [c, d]))))
theorem Hp.intoE2 {ok0 : Nat → Prop} {w0 w : World} {r d' : Ch} {M L S : List Ch} {e : En} {A B : Option Addr} {c d : Nat} {T1 T2 : TypeId} (h : Hp ok0 w0 (Ch.ls B d T1 1 fG e.ports :: Ch.ls A c T2 3 gS e.addrs :: r :: d' :: Ch.rall M :: L) S w) : Hp ok0 w0 (r :: d' :: Ch.rall (M ++ fv ⟨e, A, c, B, d⟩) :: L) S w := by
  have h1 := h.perm (L' := Ch.ls B d T1 1 fG e.ports :: Ch.ls A c T2 3 gS e.addrs :: Ch.rall M :: r :: d' :: L) (.cons _ (.cons _ (List.perm_middle (l₁ := [r, d'])).symm))
  exact h1.intoE.perm (List.perm_middle (l₁ := [r, d']))
def apV (e ver : Int) : Int := if e = 0 then ver else 0
theorem apV_ne {e : Int} (h : e ≠ 0) (ver : Int) : apV e ver = 0 := if_neg h
section
variable {v : Int} {l : List Le} {full : Bool} {bs ver : Int} {put : List Le} {drop : List aW}
theorem apply_err {k : Nat} (hk : k < 3) (h : ∀ q, q < k → [bY v l, dl v full bs ver drop.length, cy put drop].getD q 0 = 0) (h2 : [bY v l, dl v full bs ver drop.length, cy put drop].getD k 0 ≠ 0) : (bv v l full bs ver put drop) = ([bY v l, dl v full bs ver drop.length, cy put drop].getD k 0, []) := by
  match k, hk with
  | 0, _ => exact if_pos h2
  | 1, _ =>
    have h0 : bY v l = 0 := h 0 (by decide)
    rw [bv, if_neg (fun q => q h0)]; exact if_pos h2
  | 2, _ =>
    have h0 : bY v l = 0 := h 0 (by decide)
    have h1 : dl v full bs ver drop.length = 0 := h 1 (by decide)
    rw [bv, if_neg (fun q => q h0), if_neg (fun q => q h1)]; exact if_pos h2
theorem apply_go (h : ∀ q, q < 3 → [bY v l, dl v full bs ver drop.length, cy put drop].getD q 0 = 0) : bY v l = 0 ∧ dl v full bs ver drop.length = 0 ∧ cy put drop = 0 := ⟨h 0 (by decide), h 1 (by decide), h 2 (by decide)⟩
theorem apply_none (h : bY v l = 0 ∧ dl v full bs ver drop.length = 0 ∧ cy put drop = 0) (hd : b8 (if full = true then [] else l) drop = none) : (bv v l full bs ver put drop) = (5, []) := by
  rw [bv, if_neg (fun q => q h.1), if_neg (fun q => q h.2.1), if_neg (fun q => q h.2.2), hd]
theorem gP (h : bY v l = 0 ∧ dl v full bs ver drop.length = 0 ∧ cy put drop = 0) {m : List Le} (hd : b8 (if full = true then [] else l) drop = some m) : (bv v l full bs ver put drop) = if 256 < (di m put).length then (3, []) else (0, di m put) := by
  rw [bv, if_neg (fun q => q h.1), if_neg (fun q => q h.2.1), if_neg (fun q => q h.2.2), hd]
theorem base_tbe (h : bY v l = 0) : TbE ((if full = true then [] else l).map (·.e)) := by
  cases full
  · exact tab_tbe h
  · exact fZ
theorem base_sub : ∀ x ∈ (if full = true then [] else l), x ∈ l := fun x hx => by
  cases full
  · exact hx
  · cases hx
theorem base_len : (if full = true then [] else l).length ≤ l.length := by
  cases full
  · exact Nat.le_refl _
  · exact Nat.zero_le _
theorem drop_go {m : List Le} {n : aW} {r : List aW} {k : Nat} (hl : bS (m.map (·.e)) (bg n) = some (m.getD k bQ).e) (he : m.eraseIdx k = m.filter fun y => decide (bg y.e.host ≠ bg n)) : b8 m (n :: r) = b8 (m.eraseIdx k) r := by
  rw [b8, hl, if_pos (show (some (m.getD k bQ).e).isSome = true from rfl), he]
theorem drop_stop {m : List Le} {n : aW} {r : List aW} (hl : bS (m.map (·.e)) (bg n) = none) : b8 m (n :: r) = none := by
  rw [b8, hl]; rfl
end
theorem pr_old {l p : List Le} {e : Option Nat × Option Nat} {B : Option Addr} (h : (∃ a, a < l.length ∧ e = (some a, none)) ∨ ∃ oa b, b < p.length ∧ e = (oa, some b) ∧ ∀ a, oa = some a → a < l.length) (hn : (ptA B e.2).isNone = true) : ∃ i, i < l.length ∧ e = (some i, none) := by
  rcases h with ⟨a, ha, rfl⟩ | ⟨oa, b, hb, rfl, _⟩
  · exact ⟨a, ha, rfl⟩
  · cases hn
theorem pr_new {l p : List Le} {e : Option Nat × Option Nat} {B : Option Addr} (h : (∃ a, a < l.length ∧ e = (some a, none)) ∨ ∃ oa b, b < p.length ∧ e = (oa, some b) ∧ ∀ a, oa = some a → a < l.length) (hn : (ptA B e.2).isNone = false) : ∃ oa j, j < p.length ∧ e = (oa, some j) ∧ ∀ a, oa = some a → a < l.length := by
  rcases h with ⟨a, ha, rfl⟩ | ⟨oa, b, hb, rfl, h⟩
  · cases hn
  · exact ⟨oa, b, hb, rfl, h⟩

theorem TbOk.mem17 {l : List Le} (h : TbOk l) {z : Le} (hz : z ∈ l) : EnB z.e := by
  obtain ⟨h1, h2⟩ := h z hz
  have h3 := hX h2
  exact ⟨h1.lo, by omega, by omega, h1.2.1, by omega, by omega⟩

set_option maxRecDepth 100000 in
set_option maxHeartbeats 4000000 in
theorem bJ (v : Int) (l : List Le) (A : Option Addr) (c : Nat) (full : Bool) (bs ver : Int) (put : List Le) (P : Option Addr) (pc : Nat) (drop : List aW) (D : Option Addr) (dc : Nat) (hok : TbOk l) (hpok : TbOk put) (hl : l.length ≤ 1000) (hpl : put.length ≤ 1000) (hdl : drop.length ≤ 1000) (hdb : ∀ n ∈ drop, n.length ≤ 1000) : RC Try.prog 12 #[.agg (dU v A l.length c).toArray, .agg (gv full bs ver P put.length pc D drop.length dc).toArray] [Ch.rd A 7 dT l, Ch.rall (l.flatMap fv), Ch.rd P 7 dT put, Ch.rall (put.flatMap fv), Ch.rd D 1 er drop] (α := {o : List Le × Option Addr × Nat // o.1.map (·.e) = (bv v l full bs ver put drop).2.map (·.e)}) (fun o => .tuple #[.agg (dU (apV (bv v l full bs ver put drop).1 ver) o.1.2.1 o.1.1.length o.1.2.2).toArray, .int .i64 (bv v l full bs ver put drop).1]) (fun o => [Ch.rall (o.1.1.flatMap fv), Ch.ls o.1.2.1 o.1.2.2 44 7 dT o.1.1]) := by
 refine rc_of_WM (args := [.agg (dU v A l.length c).toArray, .agg (gv full bs ver P put.length pc D drop.length dc).toArray]) 91 Try.func12 rfl rfl rfl (fun w0 => ?_)
 have hph : ∀ x ∈ put, x.e.host.length ≤ 1000000000 := fun x hx => by have := (hpok.mem17 hx).h; omega
 refine ap ?_
 refine ah ?_
 refine da rfl rfl rfl (fun b1 => ?_)
 refine da rfl rfl rfl (fun b2 => ?_)
 refine bo bd rfl rfl (fun b3 => ?_)
 refine au (aj rfl) rfl rfl ?_
 refine aa ?_
 refine am ?_
 refine ap ?_
 refine ap ?_
 refine w_drawV 10 mixed ?_
 refine eA (i := 0) rfl ae (bj 2 bd rfl rfl rfl rfl) aD aD rfl (ai (ai ar)) (by kernel_rfl) rfl ?_
 refine eA (i := 2) rfl ae (bj 2 bd rfl rfl rfl rfl) aD aD rfl (ai (ai ar)) (by kernel_rfl) rfl ?_
 refine eA (i := 3) rfl ae (bj 1 ty_27 rfl rfl rfl rfl) aD aD rfl (ai (ai ar)) (by kernel_rfl) rfl ?_
 refine eA (i := 5) rfl ae (bj 1 ty_27 rfl rfl rfl rfl) aD aD rfl (ai (ai ar)) (by kernel_rfl) rfl ?_
 refine eA (i := 9) rfl ae (ak rfl) aD aD rfl (ai (ai ar)) (by kernel_rfl) rfl ?_
 refine dB (i := 1) rfl (by kernel_rfl) rfl ?_
 refine aS rfl dn rfl (cD _ _ _ _ hok (by omega)) (fun w hw => (ao (cW 0 rfl hw) (ao (cW 1 rfl hw) aM))) ?_
 refine aa ?_
 refine dh aD ?_
 refine dB (i := 4) rfl (by kernel_rfl) rfl ?_
 refine aS rfl ent_40 rfl (c_form17 v l A c full bs ver put P pc drop D dc) (fun w hw => aM) ?_
 refine aa ?_
 refine dh aD ?_
 refine dB (i := 6) rfl (by kernel_rfl) rfl ?_
 refine aS rfl ent_41 rfl (c_parts17 full bs ver put P pc drop D dc hpok (by omega) (by omega) (fun n hn => by have := hdb n hn; omega)) (fun w hw => (ao (cW 2 rfl hw) (ao (cW 3 rfl hw) (ao (cW 4 rfl hw) aM)))) ?_
 refine aa ?_
 refine dh aD ?_
 refine dB (i := 7) rfl (by kernel_rfl) rfl ?_
 refine bh (vs := [_, _, _]) ([bY v l, dl v full bs ver drop.length, cy put drop] : List (Int)) enc_i Try.underlying88 ty_31 rfl rfl rfl rfl rfl rfl (fun As4 => ?_)
 refine aa ?_
 refine dh (aJ 1) ?_
 refine eA (i := 8) rfl ae (bu Try.underlying88 rfl) (aJ 1) aD rfl (ai (ai ar)) (by kernel_rfl) rfl ?_
 refine gG (by kernel_rfl) ?_
 refine am ?_
 refine bk ?_
 refine dd (σ := Nat) [5, 7, 26, 27, 28, 29, 30, 31, 32, 33, 34] (fun k => k ≤ 3 ∧ ∀ q, q < k → [bY v l, dl v full bs ver drop.length, cy put drop].getD q 0 = 0) (fun k => 3 - k) (fun k => [(26, .int .i64 k)]) (0) ?_ ⟨rfl, trivial⟩ (fun k hI => ?_)
 ·exact ⟨Nat.zero_le _, nofun⟩
 refine ap ?_
 refine ah ?_
 refine au (cX rfl rfl) rfl rfl ?_
 refine aG (t := 27) rfl (fun h2_0 => ?_) (fun h2_0 => ?_)
 ·skip
  have hk : k < 3 := by first | omega | (simp only [List.length_cons, List.length_nil] at h2_0; omega)
  refine aa ?_
  refine am ?_
  refine ap ?_
  refine aI rfl ?_
  refine aZ ?_
  refine am ?_
  refine ap ?_
  refine bk ?_
  refine ap ?_
  refine ah ?_
  refine au (co  Try.underlying88 ty_31 rfl rfl (dS 0 rfl) rfl (by first | omega | (simp only [List.length_cons, List.length_nil]; omega))) rfl rfl ?_
  refine au (cP enc_i (0 : Int) ty_31 rfl (dS 0 rfl) (by first | omega | (simp only [List.length_cons, List.length_nil]; omega)) rfl rfl) rfl rfl ?_
  refine au (aj rfl) rfl rfl ?_
  refine aa ?_
  refine am ?_
  refine ap ?_
  refine ah ?_
  refine au (ak rfl) rfl rfl ?_
  refine au (dA rfl rfl) rfl rfl ?_
  refine aG (t := 31) rfl (fun h4_1 => ?_) (fun h4_1 => ?_)
  ·skip
   refine aa ?_
   refine am ?_
   refine aI rfl ?_
   refine ap ?_
   refine ah ?_
   refine au (bB rfl (bu_24)) rfl rfl ?_
   refine au (ak rfl) rfl rfl ?_
   refine bf bd rfl rfl rfl (.s (.z)) rfl rfl rfl rfl ?_
   refine au (aj rfl) rfl rfl ?_
   refine aa ?_
   refine am ?_
   refine aU ?_
   refine aO ?_
   refine aA ?_
   refine bG ?_
   refine aO ?_
   refine aA ?_
   refine e_lvr ?_
   refine lv_nil (rs := [.cell 4 24, .tmp 5]) rfl (dJ 1 bd rfl rfl rfl rfl (fy rfl eN)) (fun w hw => ?_)
   have hA := apply_err hk hI.2 h4_1
   have hA1 : (bv v l full bs ver put drop).1 = [bY v l, dl v full bs ver drop.length, cy put drop].getD k 0 := congrArg Prod.fst hA
   exact ⟨⟨([], none, 0), by rw [hA]⟩, by rw [hA1, apV_ne h4_1]; rfl, hw.base, ((hw.weak (List.nil_sublist _) (fun s hs => hs)).nilsl 44 7).rall0.toNews⟩
  ·skip
   refine aa ?_
   refine am ?_
   refine aK rfl ?_
   refine aZ ?_
   refine bV ?_
   refine am ?_
   refine ah ?_
   refine au (cr rfl rfl (by omega) (by omega)) rfl rfl ?_
   refine au (ak rfl) rfl rfl ?_
   refine aa ?_
   refine cn (k + 1) ?_ ?_ ⟨rfl, trivial⟩ (by repeat (first | exact trivial | refine ⟨rfl, ?_⟩)) aD
   ·refine ⟨by omega, fun q hq => ?_⟩
    by_cases e : q = k
    · rw [e]; exact Decidable.not_not.1 h4_1
    · exact hI.2 q (by omega)
   ·omega
 ·skip
  have hk3 : 3 ≤ k := by first | omega | (simp only [List.length_cons, List.length_nil] at h2_0; omega)
  refine aa ?_
  refine am ?_
  refine ap ?_
  refine aK rfl ?_
  refine cB ?_
  refine bl ?_
  refine bq ?_
  refine bA ?_
  refine am ?_
  refine ap ?_
  have hgo := apply_go (v := v) (l := l) (full := full) (bs := bs) (ver := ver) (put := put) (drop := drop) (fun q hq => hI.2 q (by omega))
  refine ah ?_
  refine au (aj rfl) rfl rfl ?_
  refine aa ?_
  refine am ?_
  refine ga (σ := {q : List Le × Option Addr × Nat // q.1 = (if full = true then [] else l)}) (fun g => [(8, .slice g.1.2.1 g.1.1.length g.1.2.2)]) (fun g => [Ch.ls g.1.2.1 g.1.2.2 44 7 dT g.1.1, Ch.row b3 (dU 0 none 0 0) 24, Ch.row b2 (gv full bs ver P put.length pc D drop.length dc) 27, Ch.row b1 (dU v A l.length c) 24]) (fun g => ?_) (fun J8 => ?_)
  ·skip
   obtain ⟨⟨m0, A0, c0⟩, hm0⟩ := g
   dsimp only at hm0 ⊢
   refine ap ?_
   refine ap ?_
   refine ah ?_
   refine au (aR fa_27_4 rfl) rfl rfl ?_
   refine au (aN 2 ty_25 rfl rfl rfl) rfl rfl ?_
   refine au (bu Try.underlying25 rfl) rfl rfl ?_
   refine au (ak rfl) rfl rfl ?_
   refine aa ?_
   refine am ?_
   refine bk ?_
   refine dZ (σ := Nat × List Le × Option Addr × Nat) [5, 8, 10, 11, 12, 44, 45, 46, 47, 48, 49, 50, 51, 52, 53, 54, 55, 56, 57, 58, 59, 60, 61, 62] (fun q => q.1 ≤ drop.length ∧ b8 (if full = true then [] else l) drop = b8 q.2.1 (drop.drop q.1) ∧ TbE (q.2.1.map (·.e)) ∧ (∀ x ∈ q.2.1, x ∈ l) ∧ q.2.1.length ≤ l.length) (fun q => drop.length - q.1) (fun q => [(44, .int .i64 q.1), (8, .slice q.2.2.1 q.2.1.length q.2.2.2)]) (fun q => Ch.ls q.2.2.1 q.2.2.2 44 7 dT q.2.1) ((0, m0, A0, c0)) ?_ ⟨rfl, rfl, trivial⟩ rfl (fun q hI => ?_)
   ·rw [hm0]
    exact ⟨Nat.zero_le _, rfl, base_tbe hgo.1, base_sub, base_len⟩
   obtain ⟨k, m, Am, cm⟩ := q
   dsimp only at hI ⊢
   refine ap ?_
   refine ah ?_
   refine au (cX rfl rfl) rfl rfl ?_
   refine aG (t := 45) rfl (fun h11_0 => ?_) (fun h11_0 => ?_)
   ·skip
    have hk : k < drop.length := by omega
    have hnm := bD (d := ([] : aW)) hk
    have hn0 := (parts_zero.1 hgo.2.2).2.1 _ hnm
    have hnl : (drop.getD k []).length ≤ 1000000 := by have := hdb _ hnm; omega
    have hml : m.length ≤ 1000000 := by omega
    have hmh : ∀ x ∈ m, x.e.host.length ≤ 1000000000 := fun x hx => by have := (hok.mem17 (hI.2.2.2.1 x hx)).h; omega
    refine aa ?_
    refine am ?_
    refine ap ?_
    refine aI rfl ?_
    refine aZ ?_
    refine am ?_
    refine ap ?_
    refine bk ?_
    refine ap ?_
    refine ah ?_
    refine au (co  Try.underlying25 bN rfl rfl (cI 4 rfl) rfl (by omega)) rfl rfl ?_
    refine au (cP bm ([] : aW) bN rfl (cI 4 rfl) (by omega) rfl rfl) rfl rfl ?_
    refine au (aj rfl) rfl rfl ?_
    refine aa ?_
    refine am ?_
    refine ap ?_
    refine ah ?_
    refine au (ak rfl) rfl rfl ?_
    refine au (ak rfl) rfl rfl ?_
    refine eP rfl ent_43 rfl (c_tfind m Am cm (drop.getD k []) hI.2.2.1 hml hn0 hnl hmh) (fun w hw => (ao (aP 0 rfl hw) aM)) (fun ⟨fk, hfk⟩ => ?_)
    refine au (ak rfl) rfl rfl ?_
    refine au (aL rfl rfl) rfl rfl ?_
    refine au (aL rfl rfl) rfl rfl ?_
    refine b6 (t := 53) rfl (fun h13_5 => ?_) (fun h13_5 => ?_)
    ·skip
     obtain ⟨hfl, hfl2, hfe⟩ := fd_yes hI.2.2.1 hn0 h13_5
     refine au (aj rfl) rfl rfl ?_
     refine au (aj rfl) rfl rfl ?_
     refine aa ?_
     refine am ?_
     refine ap ?_
     refine ap ?_
     refine ah ?_
     refine au (ak rfl) rfl rfl ?_
     refine au (cC rfl) rfl rfl ?_
     refine aa ?_
     refine am ?_
     refine aK rfl ?_
     refine aZ ?_
     refine am ?_
     refine ah ?_
     refine au (ak rfl) rfl rfl ?_
     refine au (ak rfl) rfl rfl ?_
     refine au (ak rfl) rfl rfl ?_
     refine au (cr rfl rfl (by omega) (by omega)) rfl rfl ?_
     refine eE rfl ent_44 rfl (c_Delete m Am cm fk hfl hml) (fun o => .z) (List.mem_of_getElem? (i := 0) rfl) (fun s hs => nomatch hs) (fun o5 => ?_)
     refine au (aj rfl) rfl rfl ?_
     refine aa ?_
     refine bV ?_
     refine am ?_
     refine ah ?_
     refine au (cr rfl rfl (by omega) (by omega)) rfl rfl ?_
     refine au (ak rfl) rfl rfl ?_
     refine aa ?_
     refine cn ((k + 1, m.eraseIdx fk, Am, cm)) ?_ ?_ ⟨rfl, rfl, trivial⟩ (by repeat (first | exact trivial | refine ⟨rfl, ?_⟩)) aD
     ·exact ⟨by show k + 1 ≤ _; omega, by show _ = b8 (m.eraseIdx fk) (drop.drop (k + 1)); rw [hI.2.1, b4 drop ([] : aW) k hk]; exact drop_go hfl2 hfe, hI.2.2.1.sub ((List.eraseIdx_sublist m fk).map _), fun x hx => hI.2.2.2.1 x ((List.eraseIdx_sublist m fk).subset hx), Nat.le_trans (List.eraseIdx_sublist m fk).length_le hI.2.2.2.2⟩
     ·show drop.length - (k + 1) < drop.length - k
      omega
    ·skip
     refine au (aj rfl) rfl rfl ?_
     refine au (aj rfl) rfl rfl ?_
     refine aa ?_
     refine am ?_
     refine ap ?_
     refine ap ?_
     refine ah ?_
     refine au (ak rfl) rfl rfl ?_
     refine au (cC rfl) rfl rfl ?_
     refine aa ?_
     refine am ?_
     refine aI rfl ?_
     refine ap ?_
     refine ah ?_
     refine au (bB rfl (bu_24)) rfl rfl ?_
     refine bf bd rfl rfl rfl (.s (.z)) rfl rfl rfl rfl ?_
     refine au (aj rfl) rfl rfl ?_
     refine aa ?_
     refine am ?_
     refine aU ?_
     refine aA ?_
     refine aO ?_
     refine aA ?_
     refine bG ?_
     refine aO ?_
     refine aA ?_
     refine e_lvr ?_
     refine lv_nil (rs := [.cell 4 24, .tmp 5]) rfl (dJ 1 bd rfl rfl rfl rfl (fy rfl eN)) (fun w hw => ?_)
     have hA := apply_none hgo (by rw [hI.2.1, b4 drop ([] : aW) k hk]; exact drop_stop (fd_no hI.2.2.1 hn0 hfk h13_5))
     have hA1 : (bv v l full bs ver put drop).1 = 5 := congrArg Prod.fst hA
     exact ⟨⟨([], none, 0), by rw [hA]⟩, by rw [hA1, apV_ne (by decide)]; rfl, hw.base, ((hw.weak (List.nil_sublist _) (fun s hs => hs)).nilsl 44 7).rall0.toNews⟩
   ·skip
    refine aa ?_
    refine am ?_
    refine ap ?_
    refine aK rfl ?_
    refine cB ?_
    refine bl ?_
    refine bq ?_
    refine bA ?_
    refine am ?_
    refine ap ?_
    have hmm : b8 (if full = true then [] else l) drop = some m := by rw [hI.2.1, List.drop_of_length_le (by omega)]; rfl
    have hmt := hI.2.2.1
    have hsub := hI.2.2.2.1
    have hmh : ∀ x ∈ m, x.e.host.length ≤ 1000000000 := fun x hx => by have := (hok.mem17 (hsub x hx)).h; omega
    have hck : ∀ x ∈ put, bi x.e.host = 0 := fun x hx => fE ((parts_zero.1 hgo.2.2).1 x hx)
    have hnd := (List.nodup_append.1 (parts_zero.1 hgo.2.2).2.2).1
    refine ah ?_
    refine au (aR fa_27_3 rfl) rfl rfl ?_
    refine au (aN 2 bX rfl rfl rfl) rfl rfl ?_
    refine cY rfl ent_42 rfl (c_Clone_en _ _ _ (by omega)) (fun w hw => (ao (cW 2 rfl hw) aM)) (fun ⟨Ap, cp⟩ => ?_)
    refine au (aj rfl) rfl rfl ?_
    refine aa ?_
    refine am ?_
    refine ap ?_
    refine ah ?_
    refine au (ak rfl) rfl rfl ?_
    refine eE rfl ent_45 rfl (c_Sort_en Ap cp put (by omega) hph) (fun o => .z) (List.mem_of_getElem? (i := 0) rfl) (fun s hs => nomatch hs) (fun ⟨ys, hyp, hys⟩ => ?_)
    refine aa ?_
    refine am ?_
    refine ap ?_
    refine ah ?_
    refine bo bX rfl rfl (fun b9 => ?_)
    refine aa ?_
    refine am ?_
    refine ap ?_
    refine ap ?_
    refine ah ?_
    refine au (ak rfl) rfl rfl ?_
    refine au (ak rfl) rfl rfl ?_
    refine du (t := 69) (.slice Ap ys.length cp) rfl (by rw [hyp.length_eq]) ?_
    have hyl := hyp.length_eq
    have hyh : ∀ x ∈ ys, x.e.host.length ≤ 1000000000 := fun x hx => hph x (hyp.mem_iff.1 hx)
    refine bC rfl ent_48 rfl (c_pairs Am Ap m.length ys.length cm cp) (fun w hw => aM) (fun ⟨pa, pb⟩ => ?_)
    refine wl_fact (p := m.length ≤ cm) (cap_L 4 rfl) (fun hmc => ?_)
    refine wl_fact (p := ys.length ≤ cp) (cap_L 3 rfl) (fun hyc => ?_)
    refine wl_heap (fun w h => h.f3.toRd.f3.toRd) ?_
    refine aa ?_
    refine am ?_
    refine bk ?_
    refine cu (fun w h => (h.nilsl 44 7).rall0) ?_
    refine w_rangeG (σ := List Le × Option Addr × Nat) (fun pre g => g.1.map (·.e) = (pre.map fun q => outV (mrgG m ys q)).map (·.e)) (fun c pre g => False) (fun g => [Ch.rall (g.1.flatMap fv), Ch.ls g.2.1 g.2.2 44 7 dT g.1, Ch.row b9 [.slice g.2.1 g.1.length g.2.2] 22, Ch.row b3 (dU 0 none 0 0) 24, Ch.row b2 (gv full bs ver P put.length pc D drop.length dc) 27, Ch.row b1 (dU v A l.length c) 24]) (([], none, 0)) rfl rfl ent_88 (c_pairs1 m ys Am Ap cm cp pa pb hmc hyc (by omega) (by omega) hmh hyh) (List.forall_mem_cons.2 ⟨.head _, List.forall_mem_cons.2 ⟨.tail _ (.head _), nofun⟩⟩) rfl (fun _ => rfl) (rfl) (fun w h => h.back2) (fun pre e g hxs hI lr D r hr okb wb => ?_) (fun g D0 hI => ?_) (fun c pre g D0 hxs hI => ?_)
    ·skip
     obtain ⟨out, Ax, cx⟩ := g
     obtain ⟨post, hxs⟩ := hxs
     dsimp only at hI ⊢
     have hlen9 := fu (l := m) (p := ys) _ 0 0 (Nat.le_refl _)
     have hol := eh hI
     rw [hxs] at hlen9
     simp only [List.length_append, List.length_map, List.length_cons, List.length_nil] at hlen9 hol
     have hem := fm (l := m) (p := ys) _ 0 0 e (Nat.le_refl _) (by rw [hxs]; simp)
     refine ap ?_
     refine ah ?_
     refine au (aj rfl) rfl rfl ?_
     refine aa ?_
     refine am ?_
     refine ah ?_
     refine au (aj rfl) rfl rfl ?_
     refine aa ?_
     refine e_begin rfl hr .z ?_
     refine bk ?_
     refine ap ?_
     refine ap ?_
     refine ah ?_
     refine au (ak rfl) rfl rfl ?_
     refine au (y_eqp Try.underlying99 rfl rfl) rfl rfl ?_
     refine b6 (t := 74) rfl (fun h24_1 => ?_) (fun h24_1 => ?_)
     ·skip
      obtain ⟨i, hi, rfl⟩ := pr_old hem h24_1
      have hbx := hok.mem17 (hsub _ (bD (d := bQ) hi))
      refine aa ?_
      refine am ?_
      refine aI rfl ?_
      refine ah ?_
      refine au (ak rfl) rfl rfl ?_
      refine au (aj rfl) rfl rfl ?_
      refine aa ?_
      refine am ?_
      refine w_drawV 6 mixed ?_
      refine eA (i := 1) rfl ae (ak rfl) aD aD rfl (aC pk_rd) (by kernel_rfl) rfl ?_
      refine eA (i := 2) rfl ae (cL rfl) aD aD rfl (aC pk_rd) (by kernel_rfl) rfl ?_
      refine eA (i := 3) rfl ae (de bw bQ a7 rfl (cI 0 rfl) hi rfl rfl rfl) aD aD rfl (aC pk_rd) (by kernel_rfl) rfl ?_
      refine v_many (js := [0, 4]) (by kernel_rfl) rfl ?_
      refine dV (i := 0) rfl rfl ?_ ?_
      ·skip
       refine au (aN 4 bX rfl rfl rfl) rfl rfl ?_
       refine aa ?_
       refine dh aD ?_
       refine dB (i := 4) rfl (by kernel_rfl) rfl ?_
       refine bC rfl ent_49 rfl (eH (m.getD i bQ).e (m.getD i bQ).A (m.getD i bQ).B (m.getD i bQ).c (m.getD i bQ).d (by have := hbx.la; omega) (by have := hbx.lp; omega)) (fun w hw => (ao (dH (cW 3 rfl hw) (cJ (hsub _ (bD hi)) _ (elRA _))) (ao (dH (cW 3 rfl hw) (cJ (hsub _ (bD hi)) _ (elRB _))) aM))) (fun ⟨A10, c10, B10, d10⟩ => ?_)
       refine aa ?_
       refine dh (aJ 2) ?_
       refine dB (i := 5) rfl (by kernel_rfl) rfl ?_
       refine bh (vs := [_]) ([(⟨(m.getD i bQ).e, A10, c10, B10, d10⟩ : Le)] : List (Le)) bw Try.underlying22 a7 rfl rfl rfl rfl rfl rfl (fun As12 => ?_)
       refine aa ?_
       refine dh (aJ 3) ?_
       refine dB (i := 6) rfl (by kernel_rfl) rfl ?_
       refine d1 (enc := dT) (sz := 7) [(⟨(m.getD i bQ).e, A10, c10, B10, d10⟩ : Le)] Try.underlying22 a7 rfl rfl rfl (fun A c => (.s (.s (.s (.s (.s (.s (.z)))))))) (gt 0 Try.underlying22 rfl) (by simp only [List.length_cons, List.length_nil, Nat.zero_add]; omega) (by simp only [List.length_cons, List.length_nil, Nat.zero_add]; omega) rfl (fun A12 c12 => ?_)
       refine aa ?_
       refine dN rfl ?_
       refine dB (i := 7) rfl (by kernel_rfl) rfl ?_
       refine bf bX rfl rfl rfl (.s (.s (.s (.s (.s (.s (.s (.z)))))))) rfl rfl rfl rfl ?_
       refine aa ?_
       refine dN rfl ?_
       refine gG (by kernel_rfl) ?_
       refine bV ?_
       refine gJ ((out ++ [(⟨(m.getD i bQ).e, A10, c10, B10, d10⟩ : Le)], A12, c12)) ?_ (fun w h => by
  have h2 := (h.weak (.cons _ (.cons_cons _ (.cons_cons _ (List.Sublist.refl _)))) (fun s hs => hs)).intoE2
  show Hp _ _ (_ :: _ :: Ch.rall ((out ++ [_]).flatMap fv) :: _) _ _
  rw [List.flatMap_append, List.flatMap_singleton]
  exact h2)
       ·show (out ++ [_] : List Le).map (fun x : Le => x.e) = (List.map _ (pre ++ [_])).map (fun x : Le => x.e)
        rw [List.map_append, hI, List.map_append, List.map_append]; rfl
      refine dV (i := 4) rfl rfl ?_ ?_
      ·skip
       refine bC rfl ent_49 rfl (eH (m.getD i bQ).e (m.getD i bQ).A (m.getD i bQ).B (m.getD i bQ).c (m.getD i bQ).d (by have := hbx.la; omega) (by have := hbx.lp; omega)) (fun w hw => (ao (dH (cW 3 rfl hw) (cJ (hsub _ (bD hi)) _ (elRA _))) (ao (dH (cW 3 rfl hw) (cJ (hsub _ (bD hi)) _ (elRB _))) aM))) (fun ⟨A13, c13, B13, d13⟩ => ?_)
       refine aa ?_
       refine dh (aJ 2) ?_
       refine v_many (js := [0, 5]) (by kernel_rfl) rfl ?_
       refine dV (i := 0) rfl rfl ?_ ?_
       ·skip
        refine au (aN 6 bX rfl rfl rfl) rfl rfl ?_
        refine aa ?_
        refine dh (aJ 2) ?_
        refine dB (i := 5) rfl (by kernel_rfl) rfl ?_
        refine bh (vs := [_]) ([(⟨(m.getD i bQ).e, A13, c13, B13, d13⟩ : Le)] : List (Le)) bw Try.underlying22 a7 rfl rfl rfl rfl rfl rfl (fun As15 => ?_)
        refine aa ?_
        refine dh (aJ 3) ?_
        refine dB (i := 6) rfl (by kernel_rfl) rfl ?_
        refine d1 (enc := dT) (sz := 7) [(⟨(m.getD i bQ).e, A13, c13, B13, d13⟩ : Le)] Try.underlying22 a7 rfl rfl rfl (fun A c => (.s (.s (.s (.s (.s (.s (.z)))))))) (gt 0 Try.underlying22 rfl) (by simp only [List.length_cons, List.length_nil, Nat.zero_add]; omega) (by simp only [List.length_cons, List.length_nil, Nat.zero_add]; omega) rfl (fun A15 c15 => ?_)
        refine aa ?_
        refine dN rfl ?_
        refine dB (i := 7) rfl (by kernel_rfl) rfl ?_
        refine bf bX rfl rfl rfl (.s (.s (.s (.s (.s (.s (.s (.z)))))))) rfl rfl rfl rfl ?_
        refine aa ?_
        refine dN rfl ?_
        refine gG (by kernel_rfl) ?_
        refine bV ?_
        refine gJ ((out ++ [(⟨(m.getD i bQ).e, A13, c13, B13, d13⟩ : Le)], A15, c15)) ?_ (fun w h => by
  have h2 := (h.weak (.cons _ (.cons_cons _ (.cons_cons _ (List.Sublist.refl _)))) (fun s hs => hs)).intoE2
  show Hp _ _ (_ :: _ :: Ch.rall ((out ++ [_]).flatMap fv) :: _) _ _
  rw [List.flatMap_append, List.flatMap_singleton]
  exact h2)
        ·show (out ++ [_] : List Le).map (fun x : Le => x.e) = (List.map _ (pre ++ [_])).map (fun x : Le => x.e)
         rw [List.map_append, hI, List.map_append, List.map_append]; rfl
       refine dV (i := 5) rfl rfl ?_ ?_
       ·skip
        refine bh (vs := [_]) ([(⟨(m.getD i bQ).e, A13, c13, B13, d13⟩ : Le)] : List (Le)) bw Try.underlying22 a7 rfl rfl rfl rfl rfl rfl (fun As17 => ?_)
        refine aa ?_
        refine dh (aJ 3) ?_
        refine dB (i := 0) rfl (by kernel_rfl) rfl ?_
        refine au (aN 7 bX rfl rfl rfl) rfl rfl ?_
        refine aa ?_
        refine dh (aJ 3) ?_
        refine dB (i := 6) rfl (by kernel_rfl) rfl ?_
        refine d1 (enc := dT) (sz := 7) [(⟨(m.getD i bQ).e, A13, c13, B13, d13⟩ : Le)] Try.underlying22 a7 rfl rfl rfl (fun A c => (.s (.s (.s (.s (.s (.s (.z)))))))) (gt 0 Try.underlying22 rfl) (by simp only [List.length_cons, List.length_nil, Nat.zero_add]; omega) (by simp only [List.length_cons, List.length_nil, Nat.zero_add]; omega) rfl (fun A17 c17 => ?_)
        refine aa ?_
        refine dN rfl ?_
        refine dB (i := 7) rfl (by kernel_rfl) rfl ?_
        refine bf bX rfl rfl rfl (.s (.s (.s (.s (.s (.s (.s (.z)))))))) rfl rfl rfl rfl ?_
        refine aa ?_
        refine dN rfl ?_
        refine gG (by kernel_rfl) ?_
        refine bV ?_
        refine gJ ((out ++ [(⟨(m.getD i bQ).e, A13, c13, B13, d13⟩ : Le)], A17, c17)) ?_ (fun w h => by
  have h2 := (h.weak (.cons _ (.cons_cons _ (.cons_cons _ (List.Sublist.refl _)))) (fun s hs => hs)).intoE2
  show Hp _ _ (_ :: _ :: Ch.rall ((out ++ [_]).flatMap fv) :: _) _ _
  rw [List.flatMap_append, List.flatMap_singleton]
  exact h2)
        ·show (out ++ [_] : List Le).map (fun x : Le => x.e) = (List.map _ (pre ++ [_])).map (fun x : Le => x.e)
         rw [List.map_append, hI, List.map_append, List.map_append]; rfl
       exact hU
      exact hU
     ·skip
      obtain ⟨oi, j, hj, rfl, hoi⟩ := pr_new hem h24_1
      have hbx := hpok.mem17 (hyp.mem_iff.1 (bD (d := bQ) hj))
      refine aa ?_
      refine am ?_
      refine aK rfl ?_
      refine aZ ?_
      refine am ?_
      refine w_drawV 6 mixed ?_
      refine eA (i := 1) rfl ae (ak rfl) aD aD rfl (aC pk_rd) (by kernel_rfl) rfl ?_
      refine eA (i := 2) rfl ae (cL rfl) aD aD rfl (aC pk_rd) (by kernel_rfl) rfl ?_
      refine eA (i := 3) rfl ae (de bw bQ a7 rfl (cI 1 rfl) hj rfl rfl rfl) aD aD rfl (aC pk_rd) (by kernel_rfl) rfl ?_
      refine v_many (js := [0, 4]) (by kernel_rfl) rfl ?_
      refine dV (i := 0) rfl rfl ?_ ?_
      ·skip
       refine au (aN 4 bX rfl rfl rfl) rfl rfl ?_
       refine aa ?_
       refine dh aD ?_
       refine dB (i := 4) rfl (by kernel_rfl) rfl ?_
       refine bC rfl ent_49 rfl (eH (ys.getD j bQ).e (ys.getD j bQ).A (ys.getD j bQ).B (ys.getD j bQ).c (ys.getD j bQ).d (by have := hbx.la; omega) (by have := hbx.lp; omega)) (fun w hw => (ao (dH (cW 5 rfl hw) (cJ (hyp.mem_iff.1 (bD hj)) _ (elRA _))) (ao (dH (cW 5 rfl hw) (cJ (hyp.mem_iff.1 (bD hj)) _ (elRB _))) aM))) (fun ⟨A18, c18, B18, d18⟩ => ?_)
       refine aa ?_
       refine dh (aJ 2) ?_
       refine dB (i := 5) rfl (by kernel_rfl) rfl ?_
       refine bh (vs := [_]) ([(⟨(ys.getD j bQ).e, A18, c18, B18, d18⟩ : Le)] : List (Le)) bw Try.underlying22 a7 rfl rfl rfl rfl rfl rfl (fun As20 => ?_)
       refine aa ?_
       refine dh (aJ 3) ?_
       refine dB (i := 6) rfl (by kernel_rfl) rfl ?_
       refine d1 (enc := dT) (sz := 7) [(⟨(ys.getD j bQ).e, A18, c18, B18, d18⟩ : Le)] Try.underlying22 a7 rfl rfl rfl (fun A c => (.s (.s (.s (.s (.s (.s (.z)))))))) (gt 0 Try.underlying22 rfl) (by simp only [List.length_cons, List.length_nil, Nat.zero_add]; omega) (by simp only [List.length_cons, List.length_nil, Nat.zero_add]; omega) rfl (fun A20 c20 => ?_)
       refine aa ?_
       refine dN rfl ?_
       refine dB (i := 7) rfl (by kernel_rfl) rfl ?_
       refine bf bX rfl rfl rfl (.s (.s (.s (.s (.s (.s (.s (.z)))))))) rfl rfl rfl rfl ?_
       refine aa ?_
       refine dN rfl ?_
       refine gG (by kernel_rfl) ?_
       refine bV ?_
       refine gJ ((out ++ [(⟨(ys.getD j bQ).e, A18, c18, B18, d18⟩ : Le)], A20, c20)) ?_ (fun w h => by
  have h2 := (h.weak (.cons _ (.cons_cons _ (.cons_cons _ (List.Sublist.refl _)))) (fun s hs => hs)).intoE2
  show Hp _ _ (_ :: _ :: Ch.rall ((out ++ [_]).flatMap fv) :: _) _ _
  rw [List.flatMap_append, List.flatMap_singleton]
  exact h2)
       ·show (out ++ [_] : List Le).map (fun x : Le => x.e) = (List.map _ (pre ++ [_])).map (fun x : Le => x.e)
        rw [List.map_append, hI, List.map_append, List.map_append]; rfl
      refine dV (i := 4) rfl rfl ?_ ?_
      ·skip
       refine bC rfl ent_49 rfl (eH (ys.getD j bQ).e (ys.getD j bQ).A (ys.getD j bQ).B (ys.getD j bQ).c (ys.getD j bQ).d (by have := hbx.la; omega) (by have := hbx.lp; omega)) (fun w hw => (ao (dH (cW 5 rfl hw) (cJ (hyp.mem_iff.1 (bD hj)) _ (elRA _))) (ao (dH (cW 5 rfl hw) (cJ (hyp.mem_iff.1 (bD hj)) _ (elRB _))) aM))) (fun ⟨A21, c21, B21, d21⟩ => ?_)
       refine aa ?_
       refine dh (aJ 2) ?_
       refine v_many (js := [0, 5]) (by kernel_rfl) rfl ?_
       refine dV (i := 0) rfl rfl ?_ ?_
       ·skip
        refine au (aN 6 bX rfl rfl rfl) rfl rfl ?_
        refine aa ?_
        refine dh (aJ 2) ?_
        refine dB (i := 5) rfl (by kernel_rfl) rfl ?_
        refine bh (vs := [_]) ([(⟨(ys.getD j bQ).e, A21, c21, B21, d21⟩ : Le)] : List (Le)) bw Try.underlying22 a7 rfl rfl rfl rfl rfl rfl (fun As23 => ?_)
        refine aa ?_
        refine dh (aJ 3) ?_
        refine dB (i := 6) rfl (by kernel_rfl) rfl ?_
        refine d1 (enc := dT) (sz := 7) [(⟨(ys.getD j bQ).e, A21, c21, B21, d21⟩ : Le)] Try.underlying22 a7 rfl rfl rfl (fun A c => (.s (.s (.s (.s (.s (.s (.z)))))))) (gt 0 Try.underlying22 rfl) (by simp only [List.length_cons, List.length_nil, Nat.zero_add]; omega) (by simp only [List.length_cons, List.length_nil, Nat.zero_add]; omega) rfl (fun A23 c23 => ?_)
        refine aa ?_
        refine dN rfl ?_
        refine dB (i := 7) rfl (by kernel_rfl) rfl ?_
        refine bf bX rfl rfl rfl (.s (.s (.s (.s (.s (.s (.s (.z)))))))) rfl rfl rfl rfl ?_
        refine aa ?_
        refine dN rfl ?_
        refine gG (by kernel_rfl) ?_
        refine bV ?_
        refine gJ ((out ++ [(⟨(ys.getD j bQ).e, A21, c21, B21, d21⟩ : Le)], A23, c23)) ?_ (fun w h => by
  have h2 := (h.weak (.cons _ (.cons_cons _ (.cons_cons _ (List.Sublist.refl _)))) (fun s hs => hs)).intoE2
  show Hp _ _ (_ :: _ :: Ch.rall ((out ++ [_]).flatMap fv) :: _) _ _
  rw [List.flatMap_append, List.flatMap_singleton]
  exact h2)
        ·show (out ++ [_] : List Le).map (fun x : Le => x.e) = (List.map _ (pre ++ [_])).map (fun x : Le => x.e)
         rw [List.map_append, hI, List.map_append, List.map_append]; rfl
       refine dV (i := 5) rfl rfl ?_ ?_
       ·skip
        refine bh (vs := [_]) ([(⟨(ys.getD j bQ).e, A21, c21, B21, d21⟩ : Le)] : List (Le)) bw Try.underlying22 a7 rfl rfl rfl rfl rfl rfl (fun As25 => ?_)
        refine aa ?_
        refine dh (aJ 3) ?_
        refine dB (i := 0) rfl (by kernel_rfl) rfl ?_
        refine au (aN 7 bX rfl rfl rfl) rfl rfl ?_
        refine aa ?_
        refine dh (aJ 3) ?_
        refine dB (i := 6) rfl (by kernel_rfl) rfl ?_
        refine d1 (enc := dT) (sz := 7) [(⟨(ys.getD j bQ).e, A21, c21, B21, d21⟩ : Le)] Try.underlying22 a7 rfl rfl rfl (fun A c => (.s (.s (.s (.s (.s (.s (.z)))))))) (gt 0 Try.underlying22 rfl) (by simp only [List.length_cons, List.length_nil, Nat.zero_add]; omega) (by simp only [List.length_cons, List.length_nil, Nat.zero_add]; omega) rfl (fun A25 c25 => ?_)
        refine aa ?_
        refine dN rfl ?_
        refine dB (i := 7) rfl (by kernel_rfl) rfl ?_
        refine bf bX rfl rfl rfl (.s (.s (.s (.s (.s (.s (.s (.z)))))))) rfl rfl rfl rfl ?_
        refine aa ?_
        refine dN rfl ?_
        refine gG (by kernel_rfl) ?_
        refine bV ?_
        refine gJ ((out ++ [(⟨(ys.getD j bQ).e, A21, c21, B21, d21⟩ : Le)], A25, c25)) ?_ (fun w h => by
  have h2 := (h.weak (.cons _ (.cons_cons _ (.cons_cons _ (List.Sublist.refl _)))) (fun s hs => hs)).intoE2
  show Hp _ _ (_ :: _ :: Ch.rall ((out ++ [_]).flatMap fv) :: _) _ _
  rw [List.flatMap_append, List.flatMap_singleton]
  exact h2)
        ·show (out ++ [_] : List Le).map (fun x : Le => x.e) = (List.map _ (pre ++ [_])).map (fun x : Le => x.e)
         rw [List.map_append, hI, List.map_append, List.map_append]; rfl
       exact hU
      exact hU
    ·skip
     obtain ⟨out, Ax, cx⟩ := g
     obtain ⟨xs, hfx, hI⟩ := hI
     dsimp only at hI ⊢
     subst hfx
     have hout : out.map (·.e) = (di m put).map (·.e) := hI.trans (merge_put hmt hyp hys hck hnd)
     refine bV ?_
     refine am ?_
     refine ap ?_
     refine ap ?_
     refine ah ?_
     refine au (aN 3 bX rfl rfl rfl) rfl rfl ?_
     refine au (bu Try.underlying22 rfl) rfl rfl ?_
     refine au (em rfl rfl) rfl rfl ?_
     refine aG (t := 85) rfl (fun h27_2 => ?_) (fun h27_2 => ?_)
     ·skip
      refine aa ?_
      refine am ?_
      refine aI rfl ?_
      refine ap ?_
      refine ah ?_
      refine au (bB rfl (bu_24)) rfl rfl ?_
      refine bf bd rfl rfl rfl (.s (.s (.s (.s (.z))))) rfl rfl rfl rfl ?_
      refine au (aj rfl) rfl rfl ?_
      refine aa ?_
      refine am ?_
      refine aU ?_
      refine aA ?_
      refine e_lvr ?_
      refine lv_take .z ?_
      refine lv_nil (rs := [.cell 4 24, .tmp 5]) rfl (dJ 4 bd rfl rfl rfl rfl (fy rfl eN)) (fun w hw => ?_)
      have hA : (bv v l full bs ver put drop) = (3, []) := by rw [gP hgo hmm, if_pos (by rw [← eh hout]; omega)]
      have hA1 : (bv v l full bs ver put drop).1 = 3 := congrArg Prod.fst hA
      exact ⟨⟨([], none, 0), by rw [hA]⟩, by rw [hA1, apV_ne (by decide)]; rfl, hw.base, ((hw.weak (List.nil_sublist _) (fun s hs => hs)).nilsl 44 7).rall0.toNews⟩
     ·skip
      refine aa ?_
      refine am ?_
      refine aK rfl ?_
      refine aZ ?_
      refine am ?_
      refine ap ?_
      refine ah ?_
      refine au (aR fa_27_2 rfl) rfl rfl ?_
      refine au (aN 5 d6 rfl rfl rfl) rfl rfl ?_
      refine au (aN 3 bX rfl rfl rfl) rfl rfl ?_
      refine au (bB rfl (bu_24_0_1 _ _ _ _)) rfl rfl ?_
      refine bf bd rfl rfl rfl (.s (.s (.s (.s (.z))))) rfl rfl rfl rfl ?_
      refine au (aj rfl) rfl rfl ?_
      refine aa ?_
      refine am ?_
      refine aU ?_
      refine e_lvr ?_
      refine lv_take .z ?_
      refine lv_nil (rs := [.cell 4 24, .tmp 5]) rfl (dJ 4 bd rfl rfl rfl rfl (fy rfl eN)) (fun w hw => ?_)
      have hA : (bv v l full bs ver put drop) = (0, di m put) := by rw [gP hgo hmm, if_neg (by rw [← eh hout]; omega)]
      have hA1 : (bv v l full bs ver put drop).1 = 0 := congrArg Prod.fst hA
      exact ⟨⟨(out, Ax, cx), by rw [hA]; exact hout⟩, by rw [hA1]; rfl, hw.base, (hw.weak (.cons _ (.cons_cons _ (.cons_cons _ (.cons _ (.cons _ (.cons _ (.cons _ .slnil))))))) (fun s hs => hs)).toNews⟩
    ·skip
     exact hI.elim
  ·skip
   refine ap ?_
   refine ap ?_
   refine ah ?_
   refine au (aR fa_27_0 rfl) rfl rfl ?_
   refine au (aN 2 ty_4 rfl rfl rfl) rfl rfl ?_
   refine b6 (t := 36) rfl (fun h8_1 => ?_) (fun h8_1 => ?_)
   ·skip
    refine au (cC rfl) rfl rfl ?_
    refine aa ?_
    refine am ?_
    refine aK rfl ?_
    refine aZ ?_
    refine am ?_
    refine cu (fun w h => (h.weak (.cons _ (.cons_cons _ (.cons_cons _ (.cons_cons _ .slnil)))) (fun s hs => hs)).nilsl 44 7) ?_
    exact J8 ⟨([], none, 0), by rw [h8_1]; rfl⟩ _ (by repeat (first | exact trivial | refine ⟨rfl, ?_⟩))
   ·skip
    refine au (cC rfl) rfl rfl ?_
    refine aa ?_
    refine am ?_
    refine aI rfl ?_
    refine ah ?_
    refine au (aR cS rfl) rfl rfl ?_
    refine au (aN 3 bX rfl rfl rfl) rfl rfl ?_
    refine cY rfl ent_42 rfl (c_Clone_en _ _ _ (by omega)) (fun w hw => (ao (cW 0 rfl hw) aM)) (fun ⟨A26, c26⟩ => ?_)
    refine au (aj rfl) rfl rfl ?_
    refine aa ?_
    refine am ?_
    refine cu (fun w h => h.weak (.cons_cons _ (.cons _ (.cons_cons _ (.cons_cons _ (.cons_cons _ .slnil))))) (fun s hs => hs)) ?_
    exact J8 ⟨(l, A26, c26), by rw [h8_1]; rfl⟩ _ (by repeat (first | exact trivial | refine ⟨rfl, ?_⟩))
end Go.Proofs.Ytnpdgmoeoidppaa

/- tables: found, told apart, the same; what is light, what is of its own -/
namespace Go.Proofs.Ytnpdgmoeoidppaa
open Go.RowKit Go.Shelf
set_option linter.unusedVariables false
set_option linter.unusedSimpArgs false

theorem bu_44 : Try.prog.built 44 [] = some [.string ⟨#[]⟩, .int .i64 0, .string ⟨#[]⟩, .slice none 0 0, .string ⟨#[]⟩, .slice none 0 0, .int .u32 0].toArray := by kernel_rfl
theorem ent_50 : Enters Try.prog 50 := enters_of Try.func50 (by kernel_rfl) rfl
theorem ent_51 : Enters Try.prog 51 := enters_of Try.func51 (by kernel_rfl) rfl
def g3 (v : Int) (l : List Le) (n : aW) : Option En := if bY v l ≠ 0 ∨ bi n ≠ 0 then none else bS (l.map (·.e)) (bg n)
theorem lookT_go {v : Int} {l : List Le} {n : aW} (h1 : bY v l = 0) (h2 : bi n = 0) : g3 v l n = bS (l.map (·.e)) (bg n) := if_neg (fun q => q.elim (fun q => q h1) (fun q => q h2))
/-- The hosts of auto entries. -/
def auF (l : List Le) : List Le := l.filter fun y => decide (y.e.kind = 2)
def auL (l : List Le) : List aW := (auF l).map (·.e.host)
theorem au_step {l : List Le} {i : Nat} (hi : i < l.length) : auL (l.take (i + 1)) = auL (l.take i) ++ if (l.getD i bQ).e.kind = 2 then [(l.getD i bQ).e.host] else [] := by
  rw [auL, auL, auF, auF, dE l bQ i hi, List.filter_append, List.map_append, List.filter_cons]
  by_cases h : (l.getD i bQ).e.kind = 2
  · rw [decide_eq_true h, if_pos rfl, if_pos h]; rfl
  · rw [decide_eq_false h, if_neg (by decide), if_neg h]; rfl
theorem gM (l : List Le) : (auL l).length ≤ l.length := by rw [auL, List.length_map]; exact List.length_filter_le _ _
theorem au_take (l : List Le) (i : Nat) : (auL (l.take i)).length ≤ l.length := Nat.le_trans (gM _) (by rw [List.length_take]; omega)
theorem es_getD {l k : List Le} (h1 : l.length = k.length) (h : ∀ q, q < l.length → (l.getD q bQ).e = (k.getD q bQ).e) : l.map (·.e) = k.map (·.e) := by
  apply List.ext_getElem
  · simpa using h1
  · intro i hi hj
    have hi2 : i < l.length := by simpa using hi
    have := h i hi2
    rw [List.getD_eq_getElem?_getD, List.getD_eq_getElem?_getD, List.getElem?_eq_getElem hi2, List.getElem?_eq_getElem (by omega)] at this
    rw [List.getElem_map, List.getElem_map]; exact this

set_option maxRecDepth 100000 in
theorem c_tFind (v : Int) (l : List Le) (A : Option Addr) (c : Nat) (n : aW) (hok : TbOk l) (hl : l.length ≤ 1000000) (hnl : n.length ≤ 1000000) : RC Try.prog 18 #[.agg (dU v A l.length c).toArray, .string (ba n)] [Ch.rd A 7 dT l, Ch.rall (l.flatMap fv)] (α := {r : Option Le // r.map (·.e) = g3 v l n ∧ r.getD bQ ∈ bQ :: l}) (fun o => .tuple #[.agg (dT (o.1.getD bQ)).toArray, .bool o.1.isSome]) (fun o => []) := by
 refine bZ (args := [.agg (dU v A l.length c).toArray, .string (ba n)]) 32 Try.func18 rfl rfl rfl (fun w0 => ?_)
 refine ap ?_
 refine ah ?_
 refine da rfl rfl rfl (fun b1 => ?_)
 refine bo a7 rfl rfl (fun b2 => ?_)
 refine au (aj rfl) rfl rfl ?_
 refine aa ?_
 refine am ?_
 refine ap ?_
 refine ap ?_
 refine ah ?_
 refine au (bj 1 bd rfl rfl rfl rfl) rfl rfl ?_
 refine aS rfl dn rfl (cD _ _ _ _ hok (by omega)) (fun w hw => (ao (cW 0 rfl hw) (ao (cW 1 rfl hw) aM))) ?_
 refine au (dA rfl rfl) rfl rfl ?_
 refine aG (t := 10) rfl (fun h1_2 => ?_) (fun h1_2 => ?_)
 refine au (ak rfl) rfl rfl ?_
 refine aw rfl rfl rfl rfl ?_
 refine aw rfl rfl rfl rfl ?_
 refine aw rfl rfl rfl rfl ?_
 refine au (aF rfl rfl) rfl rfl ?_
 refine aa ?_
 refine am ?_
 refine aI rfl ?_
 refine ap ?_
 refine ah ?_
 refine au (bB rfl (bu_44)) rfl rfl ?_
 refine bf a7 rfl rfl rfl .z rfl rfl rfl rfl ?_
 refine au (aj rfl) rfl rfl ?_
 refine aa ?_
 refine am ?_
 refine aU ?_
 refine aA ?_
 refine e_rsr (rs := [.cell 4 44, .tmp 5]) rfl (dJ 0 a7 rfl rfl rfl rfl (fy rfl eN)) rfl (fun w hw => ?_)
 exact ⟨⟨none, by rw [g3, if_pos (by first | exact .inl h1_2 | exact .inr h1_6)]; rfl, .head _⟩, rfl, hw.base, (hw.weak (List.nil_sublist _) (fun s hs => hs)).toNews⟩
 refine au (ak rfl) rfl rfl ?_
 refine av rfl rfl ?_
 refine au (ak rfl) rfl rfl ?_
 refine av rfl rfl ?_
 refine bL rfl ent_56 (dF _) rfl ?_
 refine av rfl rfl ?_
 refine au (dA rfl rfl) rfl rfl ?_
 refine aG (t := 14) rfl (fun h1_6 => ?_) (fun h1_6 => ?_)
 refine au (aT rfl rfl) rfl rfl ?_
 refine aa ?_
 refine am ?_
 refine aI rfl ?_
 refine ap ?_
 refine ah ?_
 refine au (bB rfl (bu_44)) rfl rfl ?_
 refine bf a7 rfl rfl rfl .z rfl rfl rfl rfl ?_
 refine au (aj rfl) rfl rfl ?_
 refine aa ?_
 refine am ?_
 refine aU ?_
 refine aA ?_
 refine e_rsr (rs := [.cell 4 44, .tmp 5]) rfl (dJ 0 a7 rfl rfl rfl rfl (fy rfl eN)) rfl (fun w hw => ?_)
 exact ⟨⟨none, by rw [g3, if_pos (by first | exact .inl h1_2 | exact .inr h1_6)]; rfl, .head _⟩, rfl, hw.base, (hw.weak (List.nil_sublist _) (fun s hs => hs)).toNews⟩
 refine au (aT rfl rfl) rfl rfl ?_
 refine aa ?_
 refine am ?_
 refine aK rfl ?_
 refine aZ ?_
 refine am ?_
 refine ap ?_
 have hT0 : bY v l = 0 := Decidable.not_not.1 h1_2
 have hn0 : bi n = 0 := Decidable.not_not.1 h1_6
 have htb := tab_tbe hT0
 have hlh : ∀ x ∈ l, x.e.host.length ≤ 1000000000 := fun x hx => by have := (hok.mem17 hx).h; omega
 refine ah ?_
 refine au (aR cS rfl) rfl rfl ?_
 refine au (aN 1 bX rfl rfl rfl) rfl rfl ?_
 refine au (ak rfl) rfl rfl ?_
 refine eP rfl ent_43 rfl (c_tfind l A c n htb (by omega) hn0 (by omega) hlh) (fun w hw => (ao (cW 0 rfl hw) aM)) (fun ⟨fk, hfk⟩ => ?_)
 refine au (ak rfl) rfl rfl ?_
 refine au (aL rfl rfl) rfl rfl ?_
 refine au (aL rfl rfl) rfl rfl ?_
 refine b6 (t := 23) rfl (fun h3_6 => ?_) (fun h3_6 => ?_)
 obtain ⟨hfl, hfl2, hfe⟩ := fd_yes htb hn0 h3_6
 refine au (aj rfl) rfl rfl ?_
 refine au (aj rfl) rfl rfl ?_
 refine aa ?_
 refine am ?_
 refine ap ?_
 refine ap ?_
 refine ah ?_
 refine au (ak rfl) rfl rfl ?_
 refine au (cC rfl) rfl rfl ?_
 refine aa ?_
 refine am ?_
 refine aK rfl ?_
 refine aZ ?_
 refine am ?_
 refine ap ?_
 refine ah ?_
 refine au (aR cS rfl) rfl rfl ?_
 refine au (aN 1 bX rfl rfl rfl) rfl rfl ?_
 refine au (ak rfl) rfl rfl ?_
 refine au (co  Try.underlying22 a7 rfl rfl (cI 0 rfl) rfl (by omega)) rfl rfl ?_
 refine au (de bw bQ a7 rfl (cI 0 rfl) (by omega) rfl rfl rfl) rfl rfl ?_
 refine bf a7 rfl rfl rfl .z rfl rfl rfl rfl ?_
 refine au (aj rfl) rfl rfl ?_
 refine aa ?_
 refine am ?_
 refine aU ?_
 refine e_rsr (rs := [.cell 4 44, .tmp 5]) rfl (dJ 0 a7 rfl rfl rfl rfl (fy rfl eN)) rfl (fun w hw => ?_)
 exact ⟨⟨some (l.getD fk bQ), by rw [lookT_go hT0 hn0, hfl2]; rfl, .tail _ (bD hfl)⟩, rfl, hw.base, (hw.weak (List.nil_sublist _) (fun s hs => hs)).toNews⟩
 refine au (aj rfl) rfl rfl ?_
 refine au (aj rfl) rfl rfl ?_
 refine aa ?_
 refine am ?_
 refine ap ?_
 refine ap ?_
 refine ah ?_
 refine au (ak rfl) rfl rfl ?_
 refine au (cC rfl) rfl rfl ?_
 refine aa ?_
 refine am ?_
 refine aI rfl ?_
 refine ap ?_
 refine ah ?_
 refine au (bB rfl (bu_44)) rfl rfl ?_
 refine bf a7 rfl rfl rfl .z rfl rfl rfl rfl ?_
 refine au (aj rfl) rfl rfl ?_
 refine aa ?_
 refine am ?_
 refine aU ?_
 refine aA ?_
 refine e_rsr (rs := [.cell 4 44, .tmp 5]) rfl (dJ 0 a7 rfl rfl rfl rfl (fy rfl eN)) rfl (fun w hw => ?_)
 exact ⟨⟨none, by rw [lookT_go hT0 hn0, fd_no htb hn0 hfk h3_6]; rfl, .head _⟩, rfl, hw.base, (hw.weak (List.nil_sublist _) (fun s hs => hs)).toNews⟩

theorem fX (v : Int) (l : List Le) (A : Option Addr) (c : Nat) (hok : TbOk l) (hlen : l.length ≤ 1000000000) : RC Try.prog 25 #[.agg (dU v A l.length c).toArray] [Ch.rd A 7 dT l, Ch.rall (l.flatMap fv)] (α := Option Addr × Nat) (fun p => .slice p.1 (auL l).length p.2) (fun p => [Ch.ls p.1 p.2 37 1 er (auL l)]) := by
 refine bZ (args := [.agg (dU v A l.length c).toArray]) 23 Try.func25 rfl rfl rfl (fun w0 => ?_)
 refine ap ?_
 refine ah ?_
 refine da rfl rfl rfl (fun b1 => ?_)
 refine au (aj rfl) rfl rfl ?_
 refine aa ?_
 refine am ?_
 refine ap ?_
 refine ah ?_
 refine au (aj rfl) rfl rfl ?_
 refine aa ?_
 refine am ?_
 refine ap ?_
 refine ap ?_
 refine ah ?_
 refine au (aR cS rfl) rfl rfl ?_
 refine au (aN 0 bX rfl rfl rfl) rfl rfl ?_
 refine au (bu Try.underlying22 rfl) rfl rfl ?_
 refine au (ak rfl) rfl rfl ?_
 refine aa ?_
 refine am ?_
 refine bk ?_
 refine cu (fun w h => h.nilsl 37 1) ?_
 refine dZ (σ := Nat × List aW × Option Addr × Nat) [3, 5, 9, 10, 11, 12, 13, 14, 15, 16, 17, 18, 19, 20, 21] (fun q => q.1 ≤ l.length ∧ q.2.1 = auL (l.take q.1)) (fun q => l.length - q.1) (fun q => [(9, .int .i64 q.1), (3, .slice q.2.2.1 q.2.1.length q.2.2.2)]) (fun q => Ch.ls q.2.2.1 q.2.2.2 37 1 er q.2.1) ((0, [], none, 0)) ?_ ⟨rfl, rfl, trivial⟩ rfl (fun q hI => ?_)
 exact ⟨Nat.zero_le _, rfl⟩
 obtain ⟨i, acc, Aq, cq⟩ := q
 dsimp only at hI ⊢
 refine ap ?_
 refine ah ?_
 refine au (cX rfl rfl) rfl rfl ?_
 refine aG (t := 10) rfl (fun h3_0 => ?_) (fun h3_0 => ?_)
 have hi : i < l.length := by omega
 have hal := au_take l i
 rw [← hI.2] at hal
 refine aa ?_
 refine am ?_
 refine ap ?_
 refine aI rfl ?_
 refine aZ ?_
 refine am ?_
 refine ap ?_
 refine bk ?_
 refine ap ?_
 refine ah ?_
 refine au (co  Try.underlying22 a7 rfl rfl (cI 0 rfl) rfl (by omega)) rfl rfl ?_
 refine au (de bw bQ a7 rfl (cI 0 rfl) (by omega) rfl rfl rfl) rfl rfl ?_
 refine bo a7 rfl rfl (fun b2 => ?_)
 refine bf a7 rfl rfl rfl .z rfl rfl rfl rfl ?_
 refine aa ?_
 refine am ?_
 refine ap ?_
 refine ah ?_
 refine au (aR fa_44_1 rfl) rfl rfl ?_
 refine au (aN 0 d6 rfl rfl rfl) rfl rfl ?_
 refine au (bW rfl rfl) rfl rfl ?_
 refine aG (t := 15) rfl (fun h5_2 => ?_) (fun h5_2 => ?_)
 refine aa ?_
 refine am ?_
 refine aI rfl ?_
 refine ah ?_
 refine au (ak rfl) rfl rfl ?_
 refine au (aR db rfl) rfl rfl ?_
 refine au (aN 0 bN rfl rfl rfl) rfl rfl ?_
 refine bh (vs := [_]) ([(l.getD i bQ).e.host] : List (aW)) bm Try.underlying25 bN rfl rfl rfl rfl rfl rfl (fun As3 => ?_)
 refine d1 (enc := er) (sz := 1) [(l.getD i bQ).e.host] Try.underlying25 bN rfl rfl rfl (fun A c => (.s (.s (.z)))) (gt 0 Try.underlying25 rfl) (by simp only [List.length_cons, List.length_nil, Nat.zero_add]; omega) (by simp only [List.length_cons, List.length_nil, Nat.zero_add]; omega) rfl (fun A3 c3 => ?_)
 refine au (aj rfl) rfl rfl ?_
 refine aa ?_
 refine bV ?_
 refine am ?_
 refine ah ?_
 refine au (cr rfl rfl (by omega) (by omega)) rfl rfl ?_
 refine au (ak rfl) rfl rfl ?_
 refine aa ?_
 refine cn ((i + 1, acc ++ [(l.getD i bQ).e.host], A3, c3)) ?_ ?_ ⟨rfl, rfl, trivial⟩ (by repeat (first | exact trivial | refine ⟨rfl, ?_⟩)) (aJ 2)
 exact ⟨by show i + 1 ≤ _; omega, by show _ = auL (l.take (i + 1)); rw [au_step hi, if_pos h5_2, ← hI.2]⟩
 show l.length - (i + 1) < l.length - i
 omega
 refine aa ?_
 refine am ?_
 refine aK rfl ?_
 refine aZ ?_
 refine bV ?_
 refine am ?_
 refine ah ?_
 refine au (cr rfl rfl (by omega) (by omega)) rfl rfl ?_
 refine au (ak rfl) rfl rfl ?_
 refine aa ?_
 refine cn ((i + 1, acc, Aq, cq)) ?_ ?_ ⟨rfl, rfl, trivial⟩ (by repeat (first | exact trivial | refine ⟨rfl, ?_⟩)) (aJ 1)
 exact ⟨by show i + 1 ≤ _; omega, by show _ = auL (l.take (i + 1)); rw [au_step hi, if_neg h5_2, ← hI.2]; exact (List.append_nil _).symm⟩
 show l.length - (i + 1) < l.length - i
 omega
 refine aa ?_
 refine am ?_
 refine ap ?_
 refine aK rfl ?_
 refine cB ?_
 refine bl ?_
 refine bq ?_
 refine bA ?_
 refine am ?_
 refine ap ?_
 refine ah ?_
 refine au (ak rfl) rfl rfl ?_
 refine au (aj rfl) rfl rfl ?_
 refine aa ?_
 refine am ?_
 refine aU ?_
 refine aX (ts := [2]) rfl rfl rfl (fun w hw => ?_)
 have hE : acc = auL l := by rw [hI.2, List.take_of_length_le (by omega)]
 subst hE
 exact ⟨(Aq, cq), rfl, hw.base, (hw.weak (.cons_cons _ (.cons _ .slnil)) (fun s hs => hs)).toNews⟩

set_option maxRecDepth 100000 in
theorem c_EqualFunc (l : List Le) (A : Option Addr) (c : Nat) (l2 : List Le) (A2 : Option Addr) (c2 : Nat) (hok : TbOk l) (hlen : l.length ≤ 1000000000) (hlen2 : l2.length ≤ 1000000000) : RC Try.prog 50 #[.slice A l.length c, .slice A2 l2.length c2, .func (.func 51) #[] #[]] [Ch.rd A 7 dT l, Ch.rall (l.flatMap fv), Ch.rd A2 7 dT l2, Ch.rall (l2.flatMap fv)] (α := Unit) (fun _ => .bool (decide (l.map (·.e) = l2.map (·.e)))) (fun _ => []) := by
 refine bZ (args := [.slice A l.length c, .slice A2 l2.length c2, .func (.func 51) #[] #[]]) 32 Try.func50 rfl rfl rfl (fun w0 => ?_)
 refine ap ?_
 refine ah ?_
 refine au (aj rfl) rfl rfl ?_
 refine aa ?_
 refine am ?_
 refine ap ?_
 refine ap ?_
 refine ah ?_
 refine au (ak rfl) rfl rfl ?_
 refine au (bu Try.underlying22 rfl) rfl rfl ?_
 refine au (ak rfl) rfl rfl ?_
 refine au (bu Try.underlying22 rfl) rfl rfl ?_
 refine au (dA rfl rfl) rfl rfl ?_
 refine aG (t := 14) rfl (fun h1_4 => ?_) (fun h1_4 => ?_)
 refine aa ?_
 refine am ?_
 refine aI rfl ?_
 refine ap ?_
 refine ah ?_
 refine au (aj rfl) rfl rfl ?_
 refine aa ?_
 refine am ?_
 refine aU ?_
 refine aA ?_
 refine aX (ts := [6]) rfl rfl rfl (fun w hw => ?_)
 refine ⟨(), ?_, hw.base, (hw.weak (List.nil_sublist _) (fun s hs => hs)).toNews⟩
 show Ending.returned (.bool _) = _
 congr 2
 focus first
   | (have hlx : ¬ l.length = l2.length := by omega
      rw [decide_eq_false (fun h => hlx (eh h))]
      done)
   | (have hne : ¬ (l.getD k bQ).e = (l2.getD k bQ).e := by simpa using h7_3
      rw [decide_eq_false (fun h => hne (by rw [d5, d5, h]))]
      done)
   | (have hq : l.map (·.e) = l2.map (·.e) := es_getD (by omega) (fun q hq => hI.2 q (by omega))
      rw [decide_eq_true hq]
      done)
   | (trace_state; fail)
 refine aa ?_
 refine am ?_
 refine aK rfl ?_
 refine aZ ?_
 refine am ?_
 refine ap ?_
 refine ap ?_
 refine ah ?_
 refine au (ak rfl) rfl rfl ?_
 refine au (bu Try.underlying22 rfl) rfl rfl ?_
 refine au (ak rfl) rfl rfl ?_
 refine aa ?_
 refine am ?_
 refine bk ?_
 refine dd (σ := Nat) [6, 7, 8, 9, 17, 18, 19, 20, 21, 22, 23, 24, 25, 26, 27, 28, 29, 30, 31] (fun k => k ≤ l.length ∧ ∀ q, q < k → (l.getD q bQ).e = (l2.getD q bQ).e) (fun k => l.length - k) (fun k => [(17, .int .i64 k)]) (0) ?_ ⟨rfl, trivial⟩ (fun k hI => ?_)
 exact ⟨Nat.zero_le _, nofun⟩
 refine ap ?_
 refine ah ?_
 refine au (cX rfl rfl) rfl rfl ?_
 refine aG (t := 18) rfl (fun h4_0 => ?_) (fun h4_0 => ?_)
 have hk : k < l.length := by omega
 have hb9 := hok.at hk
 refine aa ?_
 refine am ?_
 refine ap ?_
 refine aI rfl ?_
 refine aZ ?_
 refine am ?_
 refine ap ?_
 refine bk ?_
 refine ap ?_
 refine ah ?_
 refine au (ak rfl) rfl rfl ?_
 refine au (co  Try.underlying22 a7 rfl rfl (cI 0 rfl) rfl (by omega)) rfl rfl ?_
 refine au (de bw bQ a7 rfl (cI 0 rfl) (by omega) rfl rfl rfl) rfl rfl ?_
 refine bo a7 rfl rfl (fun b1 => ?_)
 refine au (aj rfl) rfl rfl ?_
 refine bf a7 rfl rfl rfl .z rfl rfl rfl rfl ?_
 refine aa ?_
 refine am ?_
 refine ap ?_
 refine ah ?_
 refine au (ak rfl) rfl rfl ?_
 refine au (ak rfl) rfl rfl ?_
 refine au (co  Try.underlying22 a7 rfl rfl (cI 2 rfl) rfl (by omega)) rfl rfl ?_
 refine au (de bw bQ a7 rfl (cI 2 rfl) (by omega) rfl rfl rfl) rfl rfl ?_
 refine bo a7 rfl rfl (fun b2 => ?_)
 refine bf a7 rfl rfl rfl .z rfl rfl rfl rfl ?_
 refine aa ?_
 refine am ?_
 refine ap ?_
 refine ah ?_
 refine au (ak rfl) rfl rfl ?_
 refine au (bj 1 a7 rfl rfl rfl rfl) rfl rfl ?_
 refine au (bj 0 a7 rfl rfl rfl rfl) rfl rfl ?_
 refine o_callvq rfl rfl rfl ent_51 rfl (c_entry_Same (l.getD k bQ).e (l.getD k bQ).A (l.getD k bQ).B (l.getD k bQ).c (l.getD k bQ).d (l2.getD k bQ).e (l2.getD k bQ).A (l2.getD k bQ).B (l2.getD k bQ).c (l2.getD k bQ).d (by have := hb9.la; omega) (by have := hb9.lp; omega)) (fun w hw => (ao (dH (cW 1 rfl hw) (cJ (bD (by omega : _ < l.length)) _ (elRA _))) (ao (dH (cW 1 rfl hw) (cJ (bD (by omega : _ < l.length)) _ (elRB _))) (ao (dH (cW 3 rfl hw) (cJ (bD (by omega : _ < l2.length)) _ (elRA _))) (ao (dH (cW 3 rfl hw) (cJ (bD (by omega : _ < l2.length)) _ (elRB _))) aM))))) ?_
 refine b6 (t := 29) rfl (fun h7_3 => ?_) (fun h7_3 => ?_)
 refine au (cC rfl) rfl rfl ?_
 refine aa ?_
 refine am ?_
 refine aK rfl ?_
 refine aZ ?_
 refine bV ?_
 refine am ?_
 refine ah ?_
 refine au (cr rfl rfl (by omega) (by omega)) rfl rfl ?_
 refine au (ak rfl) rfl rfl ?_
 refine aa ?_
 refine cn (k + 1) ?_ ?_ ⟨rfl, trivial⟩ (by repeat (first | exact trivial | refine ⟨rfl, ?_⟩)) (aJ 2)
 refine ⟨by omega, fun q hq => ?_⟩
 by_cases e : q = k
 · rw [e]; simpa using h7_3
 · exact hI.2 q (by omega)
 omega
 refine au (cC rfl) rfl rfl ?_
 refine aa ?_
 refine am ?_
 refine aI rfl ?_
 refine ap ?_
 refine ah ?_
 refine au (aj rfl) rfl rfl ?_
 refine aa ?_
 refine am ?_
 refine aU ?_
 refine aO ?_
 refine aA ?_
 refine bG ?_
 refine aO ?_
 refine aA ?_
 refine aX (ts := [6]) rfl rfl rfl (fun w hw => ?_)
 refine ⟨(), ?_, hw.base, (hw.weak (List.nil_sublist _) (fun s hs => hs)).toNews⟩
 show Ending.returned (.bool _) = _
 congr 2
 focus first
   | (have hlx : ¬ l.length = l2.length := by omega
      rw [decide_eq_false (fun h => hlx (eh h))]
      done)
   | (have hne : ¬ (l.getD k bQ).e = (l2.getD k bQ).e := by simpa using h7_3
      rw [decide_eq_false (fun h => hne (by rw [d5, d5, h]))]
      done)
   | (have hq : l.map (·.e) = l2.map (·.e) := es_getD (by omega) (fun q hq => hI.2 q (by omega))
      rw [decide_eq_true hq]
      done)
   | (trace_state; fail)
 refine aa ?_
 refine am ?_
 refine ap ?_
 refine aK rfl ?_
 refine cB ?_
 refine bl ?_
 refine bq ?_
 refine bA ?_
 refine am ?_
 refine ap ?_
 refine ah ?_
 refine au (aj rfl) rfl rfl ?_
 refine aa ?_
 refine am ?_
 refine aU ?_
 refine aX (ts := [6]) rfl rfl rfl (fun w hw => ?_)
 refine ⟨(), ?_, hw.base, (hw.weak (List.nil_sublist _) (fun s hs => hs)).toNews⟩
 show Ending.returned (.bool _) = _
 congr 2
 focus first
   | (have hlx : ¬ l.length = l2.length := by omega
      rw [decide_eq_false (fun h => hlx (eh h))]
      done)
   | (have hne : ¬ (l.getD k bQ).e = (l2.getD k bQ).e := by simpa using h7_3
      rw [decide_eq_false (fun h => hne (by rw [d5, d5, h]))]
      done)
   | (have hq : l.map (·.e) = l2.map (·.e) := es_getD (by omega) (fun q hq => hI.2 q (by omega))
      rw [decide_eq_true hq]
      done)
   | (trace_state; fail)

theorem dO (v : Int) (l : List Le) (A : Option Addr) (c : Nat) (v2 : Int) (l2 : List Le) (A2 : Option Addr) (c2 : Nat) (hok : TbOk l) (hlen : l.length ≤ 1000000000) (hlen2 : l2.length ≤ 1000000000) : RC Try.prog 14 #[.agg (dU v A l.length c).toArray, .agg (dU v2 A2 l2.length c2).toArray] [Ch.rd A 7 dT l, Ch.rall (l.flatMap fv), Ch.rd A2 7 dT l2, Ch.rall (l2.flatMap fv)] (α := Unit) (fun _ => .bool (decide (v = v2 ∧ l.map (·.e) = l2.map (·.e)))) (fun _ => []) := by
 refine bZ (args := [.agg (dU v A l.length c).toArray, .agg (dU v2 A2 l2.length c2).toArray]) 17 Try.func14 rfl rfl rfl (fun w0 => ?_)
 refine ap ?_
 refine ah ?_
 refine da rfl rfl rfl (fun b1 => ?_)
 refine da rfl rfl rfl (fun b2 => ?_)
 refine au (aj rfl) rfl rfl ?_
 refine aa ?_
 refine am ?_
 refine ap ?_
 refine ah ?_
 refine au (aR eY rfl) rfl rfl ?_
 refine au (aN 1 d6 rfl rfl rfl) rfl rfl ?_
 refine au (aR eY rfl) rfl rfl ?_
 refine au (aN 0 d6 rfl rfl rfl) rfl rfl ?_
 refine au (bW rfl rfl) rfl rfl ?_
 refine aG (t := 9) rfl (fun h1_4 => ?_) (fun h1_4 => ?_)
 refine au (ak rfl) rfl rfl ?_
 refine av rfl rfl ?_
 refine au (aR cS rfl) rfl rfl ?_
 refine av rfl rfl ?_
 refine au (aN 1 bX rfl rfl rfl) rfl rfl ?_
 refine av rfl rfl ?_
 refine au (aR cS rfl) rfl rfl ?_
 refine av rfl rfl ?_
 refine au (aN 0 bX rfl rfl rfl) rfl rfl ?_
 refine av rfl rfl ?_
 refine aS rfl ent_50 rfl (c_EqualFunc l _ _ l2 _ _ hok hlen hlen2) (fun w hw => (ao (cW 0 rfl hw) (ao (cW 1 rfl hw) (ao (cW 2 rfl hw) (ao (cW 3 rfl hw) aM))))) ?_
 refine au (aF rfl rfl) rfl rfl ?_
 refine au (aj rfl) rfl rfl ?_
 refine aa ?_
 refine am ?_
 refine aU ?_
 refine aX (ts := [4]) rfl rfl rfl (fun w hw => ?_)
 refine ⟨(), ?_, hw.base, (hw.weak (List.nil_sublist _) (fun s hs => hs)).toNews⟩
 show Ending.returned (.bool _) = _
 congr 2
 focus first
   | (rw [decide_eq_decide]
      exact ⟨fun h => ⟨by omega, h⟩, fun h => h.2⟩)
   | (rw [decide_eq_false (fun h => by omega)]
      done)
   | (trace_state; fail)
 refine au (ak rfl) rfl rfl ?_
 refine aw rfl rfl rfl rfl ?_
 refine aw rfl rfl rfl rfl ?_
 refine aw rfl rfl rfl rfl ?_
 refine aw rfl rfl rfl rfl ?_
 refine aw rfl rfl rfl rfl ?_
 refine au (aT rfl rfl) rfl rfl ?_
 refine au (aj rfl) rfl rfl ?_
 refine aa ?_
 refine am ?_
 refine aU ?_
 refine aX (ts := [4]) rfl rfl rfl (fun w hw => ?_)
 refine ⟨(), ?_, hw.base, (hw.weak (List.nil_sublist _) (fun s hs => hs)).toNews⟩
 show Ending.returned (.bool _) = _
 congr 2
 focus first
   | (rw [decide_eq_decide]
      exact ⟨fun h => ⟨by omega, h⟩, fun h => h.2⟩)
   | (rw [decide_eq_false (fun h => by omega)]
      done)
   | (trace_state; fail)

end Go.Proofs.Ytnpdgmoeoidppaa

/- two tables told apart -/
namespace Go.Proofs.Ytnpdgmoeoidppaa
open Go.RowKit Go.Shelf
set_option linter.unusedVariables false
set_option linter.unusedSimpArgs false

theorem bu_27_1_2 (x0 : Int) (x1 : Int) : Try.prog.built 27 [(1, .int .i64 x0), (2, .int .i64 x1)] = some [.bool false, .int .i64 x0, .int .i64 x1, .slice none 0 0, .slice none 0 0].toArray := by kernel_rfl

end Go.Proofs.Ytnpdgmoeoidppaa
