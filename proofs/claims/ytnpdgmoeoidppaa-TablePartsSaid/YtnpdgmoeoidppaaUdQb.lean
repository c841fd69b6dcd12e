import Derived.Test.YtnpdgmoeoidppaaUcQb
/- a push: the program behind it -/
namespace Go.Proofs.Ytnpdgmoeoidppaa
open Go.RowKit Go.Shelf
set_option linter.unusedVariables false
set_option linter.unusedSimpArgs false

theorem bu_24 : Try.prog.built 24 [] = some [.int .i64 0, .slice none 0 0].toArray := by kernel_rfl
theorem bu_24_0_1 (x0 : Int) (x1 : Option Addr) (x2 : Nat) (x3 : Nat) : Try.prog.built 24 [(0, .int .i64 x0), (1, .slice x1 x2 x3)] = some [.int .i64 x0, .slice x1 x2 x3].toArray := by kernel_rfl
theorem iE : Enters Try.prog 17 := enters_of Try.func17 (by kernel_rfl) rfl
theorem ent_40 : Enters Try.prog 40 := enters_of Try.func40 (by kernel_rfl) rfl
theorem ent_41 : Enters Try.prog 41 := enters_of Try.func41 (by kernel_rfl) rfl
theorem ent_42 : Enters Try.prog 42 := enters_of Try.func42 (by kernel_rfl) rfl
theorem ent_43 : Enters Try.prog 43 := enters_of Try.func43 (by kernel_rfl) rfl
theorem ent_44 : Enters Try.prog 44 := enters_of Try.func44 (by kernel_rfl) rfl
theorem ent_45 : Enters Try.prog 45 := enters_of Try.func45 (by kernel_rfl) rfl
theorem ent_48 : Enters Try.prog 48 := enters_of Try.func48 (by kernel_rfl) rfl
theorem ent_49 : Enters Try.prog 49 := enters_of Try.func49 (by kernel_rfl) rfl
theorem ent_88 : Enters Try.prog 88 := enters_of Try.func88 (by kernel_rfl) rfl
theorem aZ : TyI Try.prog 24 true 2 32 (.agg #[.int .i64 0, .slice none 0 0]) := TyI.mk' (by kernel_rfl) (fun _ => by kernel_rfl)
theorem ty_31 : TyI Try.prog 31 false 1 8 (.int .i64 0) := TyI.mk' (by kernel_rfl) (fun _ => by kernel_rfl)

theorem Hp.toRd {α : Type} {enc : α → List Value} {ok0 : Nat → Prop} {w0 w : World} {A : Option Addr} {c sz : Nat} {T : TypeId} {xs : List α} {L S : List Ch} (h : Hp ok0 w0 (Ch.ls A c T sz enc xs :: L) S w) : Hp ok0 w0 L (Ch.rd A sz enc xs :: S) w :=
  (h.turn (c' := Ch.rd A sz enc xs) .z sl_rs.1 (sl_rs (w := w)).2).freeze
theorem Hp.back2 {ok0 : Nat → Prop} {w0 w : World} {a b c d : Ch} {R S : List Ch} (h : Hp ok0 w0 (a :: b :: c :: d :: R) S w) : Hp ok0 w0 ((a :: b :: R) ++ [c, d]) S w :=
  h.perm (.cons _ (.cons _ (List.perm_append_comm (l₁ := R) (l₂ := [c, d]))))
theorem Hp.intoE2 {ok0 : Nat → Prop} {w0 w : World} {r d' : Ch} {M L S : List Ch} {e : En} {A B : Option Addr} {c d : Nat} {T1 T2 : TypeId} (h : Hp ok0 w0 (Ch.ls B d T1 1 eN e.ports :: Ch.ls A c T2 3 fY e.addrs :: r :: d' :: Ch.rall M :: L) S w) : Hp ok0 w0 (r :: d' :: Ch.rall (M ++ ff ⟨e, A, c, B, d⟩) :: L) S w := by
  have h1 := h.perm (L' := Ch.ls B d T1 1 eN e.ports :: Ch.ls A c T2 3 fY e.addrs :: Ch.rall M :: r :: d' :: L) (.cons _ (.cons _ (List.perm_middle (l₁ := [r, d'])).symm))
  exact h1.intoE.perm (List.perm_middle (l₁ := [r, d']))
def apV (e ver : Int) : Int := if e = 0 then ver else 0
theorem apV_ne {e : Int} (h : e ≠ 0) (ver : Int) : apV e ver = 0 := if_neg h
section
variable {v : Int} {l : List Le} {full : Bool} {bs ver : Int} {put : List Le} {drop : List bg}
theorem apply_err {k : Nat} (hk : k < 3) (h : ∀ q, q < k → [bX v l, dW v full bs ver drop.length, cM put drop].getD q 0 = 0) (h2 : [bX v l, dW v full bs ver drop.length, cM put drop].getD k 0 ≠ 0) : (bM v l full bs ver put drop) = ([bX v l, dW v full bs ver drop.length, cM put drop].getD k 0, []) := by
  match k, hk with
  | 0, _ => exact if_pos h2
  | 1, _ =>
    have h0 : bX v l = 0 := h 0 (by decide)
    rw [bM, if_neg (fun q => q h0)]; exact if_pos h2
  | 2, _ =>
    have h0 : bX v l = 0 := h 0 (by decide)
    have h1 : dW v full bs ver drop.length = 0 := h 1 (by decide)
    rw [bM, if_neg (fun q => q h0), if_neg (fun q => q h1)]; exact if_pos h2
theorem apply_go (h : ∀ q, q < 3 → [bX v l, dW v full bs ver drop.length, cM put drop].getD q 0 = 0) : bX v l = 0 ∧ dW v full bs ver drop.length = 0 ∧ cM put drop = 0 := ⟨h 0 (by decide), h 1 (by decide), h 2 (by decide)⟩
theorem apply_none (h : bX v l = 0 ∧ dW v full bs ver drop.length = 0 ∧ cM put drop = 0) (hd : cv (if full = true then [] else l) drop = none) : (bM v l full bs ver put drop) = (5, []) := by
  rw [bM, if_neg (fun q => q h.1), if_neg (fun q => q h.2.1), if_neg (fun q => q h.2.2), hd]
theorem apply_some (h : bX v l = 0 ∧ dW v full bs ver drop.length = 0 ∧ cM put drop = 0) {m : List Le} (hd : cv (if full = true then [] else l) drop = some m) : (bM v l full bs ver put drop) = if 256 < (de m put).length then (3, []) else (0, de m put) := by
  rw [bM, if_neg (fun q => q h.1), if_neg (fun q => q h.2.1), if_neg (fun q => q h.2.2), hd]
theorem base_tbe (h : bX v l = 0) : TbE ((if full = true then [] else l).map (·.e)) := by
  cases full
  · exact fq h
  · exact g9
theorem base_sub : ∀ x ∈ (if full = true then [] else l), x ∈ l := fun x hx => by
  cases full
  · exact hx
  · cases hx
theorem base_len : (if full = true then [] else l).length ≤ l.length := by
  cases full
  · exact Nat.le_refl _
  · exact Nat.zero_le _
theorem drop_go {m : List Le} {n : bg} {r : List bg} {k : Nat} (hl : bQ (m.map (·.e)) (bh n) = some (m.getD k bO).e) (he : m.eraseIdx k = m.filter fun y => decide (bh y.e.host ≠ bh n)) : cv m (n :: r) = cv (m.eraseIdx k) r := by
  rw [cv, hl, if_pos (show (some (m.getD k bO).e).isSome = true from rfl), he]
theorem drop_stop {m : List Le} {n : bg} {r : List bg} (hl : bQ (m.map (·.e)) (bh n) = none) : cv m (n :: r) = none := by
  rw [cv, hl]; rfl
end
theorem pr_old {l p : List Le} {e : Option Nat × Option Nat} {B : Option Addr} (h : (∃ a, a < l.length ∧ e = (some a, none)) ∨ ∃ oa b, b < p.length ∧ e = (oa, some b) ∧ ∀ a, oa = some a → a < l.length) (hn : (ptA B e.2).isNone = true) : ∃ i, i < l.length ∧ e = (some i, none) := by
  rcases h with ⟨a, ha, rfl⟩ | ⟨oa, b, hb, rfl, _⟩
  · exact ⟨a, ha, rfl⟩
  · cases hn
theorem pr_new {l p : List Le} {e : Option Nat × Option Nat} {B : Option Addr} (h : (∃ a, a < l.length ∧ e = (some a, none)) ∨ ∃ oa b, b < p.length ∧ e = (oa, some b) ∧ ∀ a, oa = some a → a < l.length) (hn : (ptA B e.2).isNone = false) : ∃ oa j, j < p.length ∧ e = (oa, some j) ∧ ∀ a, oa = some a → a < l.length := by
  rcases h with ⟨a, ha, rfl⟩ | ⟨oa, b, hb, rfl, h⟩
  · cases hn
  · exact ⟨oa, b, hb, rfl, h⟩

theorem TbOk.mem17 {l : List Le} (h : TbOk l) {z : Le} (hz : z ∈ l) : EnB z.e := by
  obtain ⟨h1, h2⟩ := h z hz
  have h3 := jb h2
  exact ⟨h1.lo, by omega, by omega, h1.2.1, by omega, by omega⟩

set_option maxRecDepth 100000 in
set_option maxHeartbeats 4000000 in
theorem a8 (v : Int) (l : List Le) (A : Option Addr) (c : Nat) (full : Bool) (bs ver : Int) (put : List Le) (P : Option Addr) (pc : Nat) (drop : List bg) (D : Option Addr) (dc : Nat) (hok : TbOk l) (hpok : TbOk put) (hl : l.length ≤ 1000) (hpl : put.length ≤ 1000) (hdl : drop.length ≤ 1000) (hdb : ∀ n ∈ drop, n.length ≤ 1000) : RC Try.prog 12 #[.agg (cU v A l.length c).toArray, .agg (eJ full bs ver P put.length pc D drop.length dc).toArray] [Ch.rd A 7 d4 l, Ch.rall (l.flatMap ff), Ch.rd P 7 d4 put, Ch.rall (put.flatMap ff), Ch.rd D 1 ed drop] (α := {o : List Le × Option Addr × Nat // o.1.map (·.e) = (bM v l full bs ver put drop).2.map (·.e)}) (fun o => .tuple #[.agg (cU (apV (bM v l full bs ver put drop).1 ver) o.1.2.1 o.1.1.length o.1.2.2).toArray, .int .i64 (bM v l full bs ver put drop).1]) (fun o => [Ch.rall (o.1.1.flatMap ff), Ch.ls o.1.2.1 o.1.2.2 44 7 d4 o.1.1]) := by
 refine rc_of_WM (args := [.agg (cU v A l.length c).toArray, .agg (eJ full bs ver P put.length pc D drop.length dc).toArray]) 91 Try.func12 rfl rfl rfl (fun w0 => ?_)
 have hph : ∀ x ∈ put, x.e.host.length ≤ 1000000000 := fun x hx => by have := (hpok.mem17 hx).h; omega
 refine ar ?_
 refine ah ?_
 refine cT rfl rfl rfl (fun b1 => ?_)
 refine cT rfl rfl rfl (fun b2 => ?_)
 refine bu aZ rfl rfl (fun b3 => ?_)
 refine ap (ai rfl) rfl rfl ?_
 refine ae ?_
 refine ao ?_
 refine ar ?_
 refine ar ?_
 refine gm 10 mixed ?_
 refine cA (i := 0) rfl aa (bp 2 aZ rfl rfl rfl rfl) aD aD rfl (aj (aj av)) (by kernel_rfl) rfl ?_
 refine cA (i := 2) rfl aa (bp 2 aZ rfl rfl rfl rfl) aD aD rfl (aj (aj av)) (by kernel_rfl) rfl ?_
 refine cA (i := 3) rfl aa (bp 1 er rfl rfl rfl rfl) aD aD rfl (aj (aj av)) (by kernel_rfl) rfl ?_
 refine cA (i := 5) rfl aa (bp 1 er rfl rfl rfl rfl) aD aD rfl (aj (aj av)) (by kernel_rfl) rfl ?_
 refine cA (i := 9) rfl aa (am rfl) aD aD rfl (aj (aj av)) (by kernel_rfl) rfl ?_
 refine cK (i := 1) rfl (by kernel_rfl) rfl ?_
 refine bi rfl iE rfl (dP _ _ _ _ hok (by omega)) (fun w hw => (ak (bW 0 rfl hw) (ak (bW 1 rfl hw) aO))) ?_
 refine ae ?_
 refine cQ aD ?_
 refine cK (i := 4) rfl (by kernel_rfl) rfl ?_
 refine bi rfl ent_40 rfl (c_form17 v l A c full bs ver put P pc drop D dc) (fun w hw => aO) ?_
 refine ae ?_
 refine cQ aD ?_
 refine cK (i := 6) rfl (by kernel_rfl) rfl ?_
 refine bi rfl ent_41 rfl (c_parts17 full bs ver put P pc drop D dc hpok (by omega) (by omega) (fun n hn => by have := hdb n hn; omega)) (fun w hw => (ak (bW 2 rfl hw) (ak (bW 3 rfl hw) (ak (bW 4 rfl hw) aO)))) ?_
 refine ae ?_
 refine cQ aD ?_
 refine cK (i := 7) rfl (by kernel_rfl) rfl ?_
 refine bf (vs := [_, _, _]) ([bX v l, dW v full bs ver drop.length, cM put drop] : List (Int)) fZ Try.underlying88 ty_31 rfl rfl rfl rfl rfl rfl (fun As4 => ?_)
 refine ae ?_
 refine cQ (aL 1) ?_
 refine cA (i := 8) rfl aa (bI Try.underlying88 rfl) (aL 1) aD rfl (aj (aj av)) (by kernel_rfl) rfl ?_
 refine ew (by kernel_rfl) ?_
 refine ao ?_
 refine bn ?_
 refine dd (σ := Nat) [5, 7, 26, 27, 28, 29, 30, 31, 32, 33, 34] (fun k => k ≤ 3 ∧ ∀ q, q < k → [bX v l, dW v full bs ver drop.length, cM put drop].getD q 0 = 0) (fun k => 3 - k) (fun k => [(26, .int .i64 k)]) (0) ?_ ⟨rfl, trivial⟩ (fun k hI => ?_)
 ·exact ⟨Nat.zero_le _, nofun⟩
 refine ar ?_
 refine ah ?_
 refine ap (cV rfl rfl) rfl rfl ?_
 refine aC (t := 27) rfl (fun h2_0 => ?_) (fun h2_0 => ?_)
 ·skip
  have hk : k < 3 := by first | omega | (simp only [List.length_cons, List.length_nil] at h2_0; omega)
  refine ae ?_
  refine ao ?_
  refine ar ?_
  refine aI rfl ?_
  refine bd ?_
  refine ao ?_
  refine ar ?_
  refine bn ?_
  refine ar ?_
  refine ah ?_
  refine ap (cj  Try.underlying88 ty_31 rfl rfl (dU 0 rfl) rfl (by first | omega | (simp only [List.length_cons, List.length_nil]; omega))) rfl rfl ?_
  refine ap (cR fZ (0 : Int) ty_31 rfl (dU 0 rfl) (by first | omega | (simp only [List.length_cons, List.length_nil]; omega)) rfl rfl) rfl rfl ?_
  refine ap (ai rfl) rfl rfl ?_
  refine ae ?_
  refine ao ?_
  refine ar ?_
  refine ah ?_
  refine ap (am rfl) rfl rfl ?_
  refine ap (db rfl rfl) rfl rfl ?_
  refine aC (t := 31) rfl (fun h4_1 => ?_) (fun h4_1 => ?_)
  ·skip
   refine ae ?_
   refine ao ?_
   refine aI rfl ?_
   refine ar ?_
   refine ah ?_
   refine ap (bm rfl (bu_24)) rfl rfl ?_
   refine ap (am rfl) rfl rfl ?_
   refine aS aZ rfl rfl rfl (.s (.z)) rfl rfl rfl rfl ?_
   refine ap (ai rfl) rfl rfl ?_
   refine ae ?_
   refine ao ?_
   refine aV ?_
   refine aT ?_
   refine aB ?_
   refine bL ?_
   refine aT ?_
   refine aB ?_
   refine e_lvr ?_
   refine gX (rs := [.cell 4 24, .tmp 5]) rfl (dn 1 aZ rfl rfl rfl rfl (gy rfl d6)) (fun w hw => ?_)
   have hA := apply_err hk hI.2 h4_1
   have hA1 : (bM v l full bs ver put drop).1 = [bX v l, dW v full bs ver drop.length, cM put drop].getD k 0 := congrArg Prod.fst hA
   exact ⟨⟨([], none, 0), by rw [hA]⟩, by rw [hA1, apV_ne h4_1]; rfl, hw.base, ((hw.weak (List.nil_sublist _) (fun s hs => hs)).nilsl 44 7).rall0.toNews⟩
  ·skip
   refine ae ?_
   refine ao ?_
   refine aN rfl ?_
   refine bd ?_
   refine bV ?_
   refine ao ?_
   refine ah ?_
   refine ap (bY rfl rfl (by omega) (by omega)) rfl rfl ?_
   refine ap (am rfl) rfl rfl ?_
   refine ae ?_
   refine cr (k + 1) ?_ ?_ ⟨rfl, trivial⟩ (by repeat (first | exact trivial | refine ⟨rfl, ?_⟩)) aD
   ·refine ⟨by omega, fun q hq => ?_⟩
    by_cases e : q = k
    · rw [e]; exact Decidable.not_not.1 h4_1
    · exact hI.2 q (by omega)
   ·omega
 ·skip
  have hk3 : 3 ≤ k := by first | omega | (simp only [List.length_cons, List.length_nil] at h2_0; omega)
  refine ae ?_
  refine ao ?_
  refine ar ?_
  refine aN rfl ?_
  refine cz ?_
  refine br ?_
  refine bC ?_
  refine bK ?_
  refine ao ?_
  refine ar ?_
  have hgo := apply_go (v := v) (l := l) (full := full) (bs := bs) (ver := ver) (put := put) (drop := drop) (fun q hq => hI.2 q (by omega))
  refine ah ?_
  refine ap (ai rfl) rfl rfl ?_
  refine ae ?_
  refine ao ?_
  refine w_joinL (σ := {q : List Le × Option Addr × Nat // q.1 = (if full = true then [] else l)}) (fun g => [(8, .slice g.1.2.1 g.1.1.length g.1.2.2)]) (fun g => [Ch.ls g.1.2.1 g.1.2.2 44 7 d4 g.1.1, Ch.row b3 (cU 0 none 0 0) 24, Ch.row b2 (eJ full bs ver P put.length pc D drop.length dc) 27, Ch.row b1 (cU v A l.length c) 24]) (fun g => ?_) (fun J8 => ?_)
  ·skip
   obtain ⟨⟨m0, A0, c0⟩, hm0⟩ := g
   dsimp only at hm0 ⊢
   refine ar ?_
   refine ar ?_
   refine ah ?_
   refine ap (aF ef rfl) rfl rfl ?_
   refine ap (aG 2 fO rfl rfl rfl) rfl rfl ?_
   refine ap (bI Try.underlying25 rfl) rfl rfl ?_
   refine ap (am rfl) rfl rfl ?_
   refine ae ?_
   refine ao ?_
   refine bn ?_
   refine eF (σ := Nat × List Le × Option Addr × Nat) [5, 8, 10, 11, 12, 44, 45, 46, 47, 48, 49, 50, 51, 52, 53, 54, 55, 56, 57, 58, 59, 60, 61, 62] (fun q => q.1 ≤ drop.length ∧ cv (if full = true then [] else l) drop = cv q.2.1 (drop.drop q.1) ∧ TbE (q.2.1.map (·.e)) ∧ (∀ x ∈ q.2.1, x ∈ l) ∧ q.2.1.length ≤ l.length) (fun q => drop.length - q.1) (fun q => [(44, .int .i64 q.1), (8, .slice q.2.2.1 q.2.1.length q.2.2.2)]) (fun q => Ch.ls q.2.2.1 q.2.2.2 44 7 d4 q.2.1) ((0, m0, A0, c0)) ?_ ⟨rfl, rfl, trivial⟩ rfl (fun q hI => ?_)
   ·rw [hm0]
    exact ⟨Nat.zero_le _, rfl, base_tbe hgo.1, base_sub, base_len⟩
   obtain ⟨k, m, Am, cm⟩ := q
   dsimp only at hI ⊢
   refine ar ?_
   refine ah ?_
   refine ap (cV rfl rfl) rfl rfl ?_
   refine aC (t := 45) rfl (fun h11_0 => ?_) (fun h11_0 => ?_)
   ·skip
    have hk : k < drop.length := by omega
    have hnm := bE (d := ([] : bg)) hk
    have hn0 := (parts_zero.1 hgo.2.2).2.1 _ hnm
    have hnl : (drop.getD k []).length ≤ 1000000 := by have := hdb _ hnm; omega
    have hml : m.length ≤ 1000000 := by omega
    have hmh : ∀ x ∈ m, x.e.host.length ≤ 1000000000 := fun x hx => by have := (hok.mem17 (hI.2.2.2.1 x hx)).h; omega
    refine ae ?_
    refine ao ?_
    refine ar ?_
    refine aI rfl ?_
    refine bd ?_
    refine ao ?_
    refine ar ?_
    refine bn ?_
    refine ar ?_
    refine ah ?_
    refine ap (cj  Try.underlying25 bF rfl rfl (cD 4 rfl) rfl (by omega)) rfl rfl ?_
    refine ap (cR bB ([] : bg) bF rfl (cD 4 rfl) (by omega) rfl rfl) rfl rfl ?_
    refine ap (ai rfl) rfl rfl ?_
    refine ae ?_
    refine ao ?_
    refine ar ?_
    refine ah ?_
    refine ap (am rfl) rfl rfl ?_
    refine ap (am rfl) rfl rfl ?_
    refine gV rfl ent_43 rfl (c_tfind m Am cm (drop.getD k []) hI.2.2.1 hml hn0 hnl hmh) (fun w hw => (ak (aK 0 rfl hw) aO)) (fun ⟨fk, hfk⟩ => ?_)
    refine ap (am rfl) rfl rfl ?_
    refine ap (az rfl rfl) rfl rfl ?_
    refine ap (az rfl rfl) rfl rfl ?_
    refine bS (t := 53) rfl (fun h13_5 => ?_) (fun h13_5 => ?_)
    ·skip
     obtain ⟨hfl, hfl2, hfe⟩ := fd_yes hI.2.2.1 hn0 h13_5
     refine ap (ai rfl) rfl rfl ?_
     refine ap (ai rfl) rfl rfl ?_
     refine ae ?_
     refine ao ?_
     refine ar ?_
     refine ar ?_
     refine ah ?_
     refine ap (am rfl) rfl rfl ?_
     refine ap (ct rfl) rfl rfl ?_
     refine ae ?_
     refine ao ?_
     refine aN rfl ?_
     refine bd ?_
     refine ao ?_
     refine ah ?_
     refine ap (am rfl) rfl rfl ?_
     refine ap (am rfl) rfl rfl ?_
     refine ap (am rfl) rfl rfl ?_
     refine ap (bY rfl rfl (by omega) (by omega)) rfl rfl ?_
     refine fp rfl ent_44 rfl (c_Delete m Am cm fk hfl hml) (fun o => .z) (List.mem_of_getElem? (i := 0) rfl) (fun s hs => nomatch hs) (fun o5 => ?_)
     refine ap (ai rfl) rfl rfl ?_
     refine ae ?_
     refine bV ?_
     refine ao ?_
     refine ah ?_
     refine ap (bY rfl rfl (by omega) (by omega)) rfl rfl ?_
     refine ap (am rfl) rfl rfl ?_
     refine ae ?_
     refine cr ((k + 1, m.eraseIdx fk, Am, cm)) ?_ ?_ ⟨rfl, rfl, trivial⟩ (by repeat (first | exact trivial | refine ⟨rfl, ?_⟩)) aD
     ·exact ⟨by show k + 1 ≤ _; omega, by show _ = cv (m.eraseIdx fk) (drop.drop (k + 1)); rw [hI.2.1, cE drop ([] : bg) k hk]; exact drop_go hfl2 hfe, hI.2.2.1.sub ((List.eraseIdx_sublist m fk).map _), fun x hx => hI.2.2.2.1 x ((List.eraseIdx_sublist m fk).subset hx), Nat.le_trans (List.eraseIdx_sublist m fk).length_le hI.2.2.2.2⟩
     ·show drop.length - (k + 1) < drop.length - k
      omega
    ·skip
     refine ap (ai rfl) rfl rfl ?_
     refine ap (ai rfl) rfl rfl ?_
     refine ae ?_
     refine ao ?_
     refine ar ?_
     refine ar ?_
     refine ah ?_
     refine ap (am rfl) rfl rfl ?_
     refine ap (ct rfl) rfl rfl ?_
     refine ae ?_
     refine ao ?_
     refine aI rfl ?_
     refine ar ?_
     refine ah ?_
     refine ap (bm rfl (bu_24)) rfl rfl ?_
     refine aS aZ rfl rfl rfl (.s (.z)) rfl rfl rfl rfl ?_
     refine ap (ai rfl) rfl rfl ?_
     refine ae ?_
     refine ao ?_
     refine aV ?_
     refine aB ?_
     refine aT ?_
     refine aB ?_
     refine bL ?_
     refine aT ?_
     refine aB ?_
     refine e_lvr ?_
     refine gX (rs := [.cell 4 24, .tmp 5]) rfl (dn 1 aZ rfl rfl rfl rfl (gy rfl d6)) (fun w hw => ?_)
     have hA := apply_none hgo (by rw [hI.2.1, cE drop ([] : bg) k hk]; exact drop_stop (fd_no hI.2.2.1 hn0 hfk h13_5))
     have hA1 : (bM v l full bs ver put drop).1 = 5 := congrArg Prod.fst hA
     exact ⟨⟨([], none, 0), by rw [hA]⟩, by rw [hA1, apV_ne (by decide)]; rfl, hw.base, ((hw.weak (List.nil_sublist _) (fun s hs => hs)).nilsl 44 7).rall0.toNews⟩
   ·skip
    refine ae ?_
    refine ao ?_
    refine ar ?_
    refine aN rfl ?_
    refine cz ?_
    refine br ?_
    refine bC ?_
    refine bK ?_
    refine ao ?_
    refine ar ?_
    have hmm : cv (if full = true then [] else l) drop = some m := by rw [hI.2.1, List.drop_of_length_le (by omega)]; rfl
    have hmt := hI.2.2.1
    have hsub := hI.2.2.2.1
    have hmh : ∀ x ∈ m, x.e.host.length ≤ 1000000000 := fun x hx => by have := (hok.mem17 (hsub x hx)).h; omega
    have hck : ∀ x ∈ put, bj x.e.host = 0 := fun x hx => iM ((parts_zero.1 hgo.2.2).1 x hx)
    have hnd := (List.nodup_append.1 (parts_zero.1 hgo.2.2).2.2).1
    refine ah ?_
    refine ap (aF dz rfl) rfl rfl ?_
    refine ap (aG 2 bU rfl rfl rfl) rfl rfl ?_
    refine d9 rfl ent_42 rfl (c_Clone_en _ _ _ (by omega)) (fun w hw => (ak (bW 2 rfl hw) aO)) (fun ⟨Ap, cp⟩ => ?_)
    refine ap (ai rfl) rfl rfl ?_
    refine ae ?_
    refine ao ?_
    refine ar ?_
    refine ah ?_
    refine ap (am rfl) rfl rfl ?_
    refine fp rfl ent_45 rfl (c_Sort_en Ap cp put (by omega) hph) (fun o => .z) (List.mem_of_getElem? (i := 0) rfl) (fun s hs => nomatch hs) (fun ⟨ys, hyp, hys⟩ => ?_)
    refine ae ?_
    refine ao ?_
    refine ar ?_
    refine ah ?_
    refine bu bU rfl rfl (fun b9 => ?_)
    refine ae ?_
    refine ao ?_
    refine ar ?_
    refine ar ?_
    refine ah ?_
    refine ap (am rfl) rfl rfl ?_
    refine ap (am rfl) rfl rfl ?_
    refine dx (t := 69) (.slice Ap ys.length cp) rfl (by rw [hyp.length_eq]) ?_
    have hyl := hyp.length_eq
    have hyh : ∀ x ∈ ys, x.e.host.length ≤ 1000000000 := fun x hx => hph x (hyp.mem_iff.1 hx)
    refine a6 rfl ent_48 rfl (c_pairs Am Ap m.length ys.length cm cp) (fun w hw => aO) (fun ⟨pa, pb⟩ => ?_)
    refine wl_fact (p := m.length ≤ cm) (cap_L 4 rfl) (fun hmc => ?_)
    refine wl_fact (p := ys.length ≤ cp) (cap_L 3 rfl) (fun hyc => ?_)
    refine wl_heap (fun w h => h.f3.toRd.f3.toRd) ?_
    refine ae ?_
    refine ao ?_
    refine bn ?_
    refine bD (fun w h => (h.nilsl 44 7).rall0) ?_
    refine w_rangeG (σ := List Le × Option Addr × Nat) (fun pre g => g.1.map (·.e) = (pre.map fun q => outV (gv m ys q)).map (·.e)) (fun c pre g => False) (fun g => [Ch.rall (g.1.flatMap ff), Ch.ls g.2.1 g.2.2 44 7 d4 g.1, Ch.row b9 [.slice g.2.1 g.1.length g.2.2] 22, Ch.row b3 (cU 0 none 0 0) 24, Ch.row b2 (eJ full bs ver P put.length pc D drop.length dc) 27, Ch.row b1 (cU v A l.length c) 24]) (([], none, 0)) rfl rfl ent_88 (c_pairs1 m ys Am Ap cm cp pa pb hmc hyc (by omega) (by omega) hmh hyh) (List.forall_mem_cons.2 ⟨.head _, List.forall_mem_cons.2 ⟨.tail _ (.head _), nofun⟩⟩) rfl (fun _ => rfl) (rfl) (fun w h => h.back2) (fun pre e g hxs hI lr D r hr okb wb => ?_) (fun g D0 hI => ?_) (fun c pre g D0 hxs hI => ?_)
    ·skip
     obtain ⟨out, Ax, cx⟩ := g
     obtain ⟨post, hxs⟩ := hxs
     dsimp only at hI ⊢
     have hlen9 := fI (l := m) (p := ys) _ 0 0 (Nat.le_refl _)
     have hol := d7 hI
     rw [hxs] at hlen9
     simp only [List.length_append, List.length_map, List.length_cons, List.length_nil] at hlen9 hol
     have hem := fF (l := m) (p := ys) _ 0 0 e (Nat.le_refl _) (by rw [hxs]; simp)
     refine ar ?_
     refine ah ?_
     refine ap (ai rfl) rfl rfl ?_
     refine ae ?_
     refine ao ?_
     refine ah ?_
     refine ap (ai rfl) rfl rfl ?_
     refine ae ?_
     refine e_begin rfl hr .z ?_
     refine bn ?_
     refine ar ?_
     refine ar ?_
     refine ah ?_
     refine ap (am rfl) rfl rfl ?_
     refine ap (y_eqp Try.underlying99 rfl rfl) rfl rfl ?_
     refine bS (t := 74) rfl (fun h24_1 => ?_) (fun h24_1 => ?_)
     ·skip
      obtain ⟨i, hi, rfl⟩ := pr_old hem h24_1
      have hbx := hok.mem17 (hsub _ (bE (d := bO) hi))
      refine ae ?_
      refine ao ?_
      refine aI rfl ?_
      refine ah ?_
      refine ap (am rfl) rfl rfl ?_
      refine ap (ai rfl) rfl rfl ?_
      refine ae ?_
      refine ao ?_
      refine gm 6 mixed ?_
      refine cA (i := 1) rfl aa (am rfl) aD aD rfl (aA cP) (by kernel_rfl) rfl ?_
      refine cA (i := 2) rfl aa (cH rfl) aD aD rfl (aA cP) (by kernel_rfl) rfl ?_
      refine cA (i := 3) rfl aa (cS bl bO a7 rfl (cD 0 rfl) hi rfl rfl rfl) aD aD rfl (aA cP) (by kernel_rfl) rfl ?_
      refine gP (js := [0, 4]) (by kernel_rfl) rfl ?_
      refine dF (i := 0) rfl rfl ?_ ?_
      ·skip
       refine ap (aG 4 bU rfl rfl rfl) rfl rfl ?_
       refine ae ?_
       refine cQ aD ?_
       refine cK (i := 4) rfl (by kernel_rfl) rfl ?_
       refine a6 rfl ent_49 rfl (fm (m.getD i bO).e (m.getD i bO).A (m.getD i bO).B (m.getD i bO).c (m.getD i bO).d (by have := hbx.la; omega) (by have := hbx.lp; omega)) (fun w hw => (ak (c9 (bW 3 rfl hw) (cg (hsub _ (bE hi)) _ (il _))) (ak (c9 (bW 3 rfl hw) (cg (hsub _ (bE hi)) _ (iv _))) aO))) (fun ⟨A10, c10, B10, d10⟩ => ?_)
       refine ae ?_
       refine cQ (aL 2) ?_
       refine cK (i := 5) rfl (by kernel_rfl) rfl ?_
       refine bf (vs := [_]) ([(⟨(m.getD i bO).e, A10, c10, B10, d10⟩ : Le)] : List (Le)) bl Try.underlying22 a7 rfl rfl rfl rfl rfl rfl (fun As12 => ?_)
       refine ae ?_
       refine cQ (aL 3) ?_
       refine cK (i := 6) rfl (by kernel_rfl) rfl ?_
       refine dh (enc := d4) (sz := 7) [(⟨(m.getD i bO).e, A10, c10, B10, d10⟩ : Le)] Try.underlying22 a7 rfl rfl rfl (fun A c => (.s (.s (.s (.s (.s (.s (.z)))))))) (fj 0 Try.underlying22 rfl) (by simp only [List.length_cons, List.length_nil, Nat.zero_add]; omega) (by simp only [List.length_cons, List.length_nil, Nat.zero_add]; omega) rfl (fun A12 c12 => ?_)
       refine ae ?_
       refine cG rfl ?_
       refine cK (i := 7) rfl (by kernel_rfl) rfl ?_
       refine aS bU rfl rfl rfl (.s (.s (.s (.s (.s (.s (.s (.z)))))))) rfl rfl rfl rfl ?_
       refine ae ?_
       refine cG rfl ?_
       refine ew (by kernel_rfl) ?_
       refine bV ?_
       refine eO ((out ++ [(⟨(m.getD i bO).e, A10, c10, B10, d10⟩ : Le)], A12, c12)) ?_ (fun w h => by
  have h2 := (h.weak (.cons _ (.cons_cons _ (.cons_cons _ (List.Sublist.refl _)))) (fun s hs => hs)).intoE2
  show Hp _ _ (_ :: _ :: Ch.rall ((out ++ [_]).flatMap ff) :: _) _ _
  rw [List.flatMap_append, List.flatMap_singleton]
  exact h2)
       ·show (out ++ [_] : List Le).map (fun x : Le => x.e) = (List.map _ (pre ++ [_])).map (fun x : Le => x.e)
        rw [List.map_append, hI, List.map_append, List.map_append]; rfl
      refine dF (i := 4) rfl rfl ?_ ?_
      ·skip
       refine a6 rfl ent_49 rfl (fm (m.getD i bO).e (m.getD i bO).A (m.getD i bO).B (m.getD i bO).c (m.getD i bO).d (by have := hbx.la; omega) (by have := hbx.lp; omega)) (fun w hw => (ak (c9 (bW 3 rfl hw) (cg (hsub _ (bE hi)) _ (il _))) (ak (c9 (bW 3 rfl hw) (cg (hsub _ (bE hi)) _ (iv _))) aO))) (fun ⟨A13, c13, B13, d13⟩ => ?_)
       refine ae ?_
       refine cQ (aL 2) ?_
       refine gP (js := [0, 5]) (by kernel_rfl) rfl ?_
       refine dF (i := 0) rfl rfl ?_ ?_
       ·skip
        refine ap (aG 6 bU rfl rfl rfl) rfl rfl ?_
        refine ae ?_
        refine cQ (aL 2) ?_
        refine cK (i := 5) rfl (by kernel_rfl) rfl ?_
        refine bf (vs := [_]) ([(⟨(m.getD i bO).e, A13, c13, B13, d13⟩ : Le)] : List (Le)) bl Try.underlying22 a7 rfl rfl rfl rfl rfl rfl (fun As15 => ?_)
        refine ae ?_
        refine cQ (aL 3) ?_
        refine cK (i := 6) rfl (by kernel_rfl) rfl ?_
        refine dh (enc := d4) (sz := 7) [(⟨(m.getD i bO).e, A13, c13, B13, d13⟩ : Le)] Try.underlying22 a7 rfl rfl rfl (fun A c => (.s (.s (.s (.s (.s (.s (.z)))))))) (fj 0 Try.underlying22 rfl) (by simp only [List.length_cons, List.length_nil, Nat.zero_add]; omega) (by simp only [List.length_cons, List.length_nil, Nat.zero_add]; omega) rfl (fun A15 c15 => ?_)
        refine ae ?_
        refine cG rfl ?_
        refine cK (i := 7) rfl (by kernel_rfl) rfl ?_
        refine aS bU rfl rfl rfl (.s (.s (.s (.s (.s (.s (.s (.z)))))))) rfl rfl rfl rfl ?_
        refine ae ?_
        refine cG rfl ?_
        refine ew (by kernel_rfl) ?_
        refine bV ?_
        refine eO ((out ++ [(⟨(m.getD i bO).e, A13, c13, B13, d13⟩ : Le)], A15, c15)) ?_ (fun w h => by
  have h2 := (h.weak (.cons _ (.cons_cons _ (.cons_cons _ (List.Sublist.refl _)))) (fun s hs => hs)).intoE2
  show Hp _ _ (_ :: _ :: Ch.rall ((out ++ [_]).flatMap ff) :: _) _ _
  rw [List.flatMap_append, List.flatMap_singleton]
  exact h2)
        ·show (out ++ [_] : List Le).map (fun x : Le => x.e) = (List.map _ (pre ++ [_])).map (fun x : Le => x.e)
         rw [List.map_append, hI, List.map_append, List.map_append]; rfl
       refine dF (i := 5) rfl rfl ?_ ?_
       ·skip
        refine bf (vs := [_]) ([(⟨(m.getD i bO).e, A13, c13, B13, d13⟩ : Le)] : List (Le)) bl Try.underlying22 a7 rfl rfl rfl rfl rfl rfl (fun As17 => ?_)
        refine ae ?_
        refine cQ (aL 3) ?_
        refine cK (i := 0) rfl (by kernel_rfl) rfl ?_
        refine ap (aG 7 bU rfl rfl rfl) rfl rfl ?_
        refine ae ?_
        refine cQ (aL 3) ?_
        refine cK (i := 6) rfl (by kernel_rfl) rfl ?_
        refine dh (enc := d4) (sz := 7) [(⟨(m.getD i bO).e, A13, c13, B13, d13⟩ : Le)] Try.underlying22 a7 rfl rfl rfl (fun A c => (.s (.s (.s (.s (.s (.s (.z)))))))) (fj 0 Try.underlying22 rfl) (by simp only [List.length_cons, List.length_nil, Nat.zero_add]; omega) (by simp only [List.length_cons, List.length_nil, Nat.zero_add]; omega) rfl (fun A17 c17 => ?_)
        refine ae ?_
        refine cG rfl ?_
        refine cK (i := 7) rfl (by kernel_rfl) rfl ?_
        refine aS bU rfl rfl rfl (.s (.s (.s (.s (.s (.s (.s (.z)))))))) rfl rfl rfl rfl ?_
        refine ae ?_
        refine cG rfl ?_
        refine ew (by kernel_rfl) ?_
        refine bV ?_
        refine eO ((out ++ [(⟨(m.getD i bO).e, A13, c13, B13, d13⟩ : Le)], A17, c17)) ?_ (fun w h => by
  have h2 := (h.weak (.cons _ (.cons_cons _ (.cons_cons _ (List.Sublist.refl _)))) (fun s hs => hs)).intoE2
  show Hp _ _ (_ :: _ :: Ch.rall ((out ++ [_]).flatMap ff) :: _) _ _
  rw [List.flatMap_append, List.flatMap_singleton]
  exact h2)
        ·show (out ++ [_] : List Le).map (fun x : Le => x.e) = (List.map _ (pre ++ [_])).map (fun x : Le => x.e)
         rw [List.map_append, hI, List.map_append, List.map_append]; rfl
       exact fR
      exact fR
     ·skip
      obtain ⟨oi, j, hj, rfl, hoi⟩ := pr_new hem h24_1
      have hbx := hpok.mem17 (hyp.mem_iff.1 (bE (d := bO) hj))
      refine ae ?_
      refine ao ?_
      refine aN rfl ?_
      refine bd ?_
      refine ao ?_
      refine gm 6 mixed ?_
      refine cA (i := 1) rfl aa (am rfl) aD aD rfl (aA cP) (by kernel_rfl) rfl ?_
      refine cA (i := 2) rfl aa (cH rfl) aD aD rfl (aA cP) (by kernel_rfl) rfl ?_
      refine cA (i := 3) rfl aa (cS bl bO a7 rfl (cD 1 rfl) hj rfl rfl rfl) aD aD rfl (aA cP) (by kernel_rfl) rfl ?_
      refine gP (js := [0, 4]) (by kernel_rfl) rfl ?_
      refine dF (i := 0) rfl rfl ?_ ?_
      ·skip
       refine ap (aG 4 bU rfl rfl rfl) rfl rfl ?_
       refine ae ?_
       refine cQ aD ?_
       refine cK (i := 4) rfl (by kernel_rfl) rfl ?_
       refine a6 rfl ent_49 rfl (fm (ys.getD j bO).e (ys.getD j bO).A (ys.getD j bO).B (ys.getD j bO).c (ys.getD j bO).d (by have := hbx.la; omega) (by have := hbx.lp; omega)) (fun w hw => (ak (c9 (bW 5 rfl hw) (cg (hyp.mem_iff.1 (bE hj)) _ (il _))) (ak (c9 (bW 5 rfl hw) (cg (hyp.mem_iff.1 (bE hj)) _ (iv _))) aO))) (fun ⟨A18, c18, B18, d18⟩ => ?_)
       refine ae ?_
       refine cQ (aL 2) ?_
       refine cK (i := 5) rfl (by kernel_rfl) rfl ?_
       refine bf (vs := [_]) ([(⟨(ys.getD j bO).e, A18, c18, B18, d18⟩ : Le)] : List (Le)) bl Try.underlying22 a7 rfl rfl rfl rfl rfl rfl (fun As20 => ?_)
       refine ae ?_
       refine cQ (aL 3) ?_
       refine cK (i := 6) rfl (by kernel_rfl) rfl ?_
       refine dh (enc := d4) (sz := 7) [(⟨(ys.getD j bO).e, A18, c18, B18, d18⟩ : Le)] Try.underlying22 a7 rfl rfl rfl (fun A c => (.s (.s (.s (.s (.s (.s (.z)))))))) (fj 0 Try.underlying22 rfl) (by simp only [List.length_cons, List.length_nil, Nat.zero_add]; omega) (by simp only [List.length_cons, List.length_nil, Nat.zero_add]; omega) rfl (fun A20 c20 => ?_)
       refine ae ?_
       refine cG rfl ?_
       refine cK (i := 7) rfl (by kernel_rfl) rfl ?_
       refine aS bU rfl rfl rfl (.s (.s (.s (.s (.s (.s (.s (.z)))))))) rfl rfl rfl rfl ?_
       refine ae ?_
       refine cG rfl ?_
       refine ew (by kernel_rfl) ?_
       refine bV ?_
       refine eO ((out ++ [(⟨(ys.getD j bO).e, A18, c18, B18, d18⟩ : Le)], A20, c20)) ?_ (fun w h => by
  have h2 := (h.weak (.cons _ (.cons_cons _ (.cons_cons _ (List.Sublist.refl _)))) (fun s hs => hs)).intoE2
  show Hp _ _ (_ :: _ :: Ch.rall ((out ++ [_]).flatMap ff) :: _) _ _
  rw [List.flatMap_append, List.flatMap_singleton]
  exact h2)
       ·show (out ++ [_] : List Le).map (fun x : Le => x.e) = (List.map _ (pre ++ [_])).map (fun x : Le => x.e)
        rw [List.map_append, hI, List.map_append, List.map_append]; rfl
      refine dF (i := 4) rfl rfl ?_ ?_
      ·skip
       refine a6 rfl ent_49 rfl (fm (ys.getD j bO).e (ys.getD j bO).A (ys.getD j bO).B (ys.getD j bO).c (ys.getD j bO).d (by have := hbx.la; omega) (by have := hbx.lp; omega)) (fun w hw => (ak (c9 (bW 5 rfl hw) (cg (hyp.mem_iff.1 (bE hj)) _ (il _))) (ak (c9 (bW 5 rfl hw) (cg (hyp.mem_iff.1 (bE hj)) _ (iv _))) aO))) (fun ⟨A21, c21, B21, d21⟩ => ?_)
       refine ae ?_
       refine cQ (aL 2) ?_
       refine gP (js := [0, 5]) (by kernel_rfl) rfl ?_
       refine dF (i := 0) rfl rfl ?_ ?_
       ·skip
        refine ap (aG 6 bU rfl rfl rfl) rfl rfl ?_
        refine ae ?_
        refine cQ (aL 2) ?_
        refine cK (i := 5) rfl (by kernel_rfl) rfl ?_
        refine bf (vs := [_]) ([(⟨(ys.getD j bO).e, A21, c21, B21, d21⟩ : Le)] : List (Le)) bl Try.underlying22 a7 rfl rfl rfl rfl rfl rfl (fun As23 => ?_)
        refine ae ?_
        refine cQ (aL 3) ?_
        refine cK (i := 6) rfl (by kernel_rfl) rfl ?_
        refine dh (enc := d4) (sz := 7) [(⟨(ys.getD j bO).e, A21, c21, B21, d21⟩ : Le)] Try.underlying22 a7 rfl rfl rfl (fun A c => (.s (.s (.s (.s (.s (.s (.z)))))))) (fj 0 Try.underlying22 rfl) (by simp only [List.length_cons, List.length_nil, Nat.zero_add]; omega) (by simp only [List.length_cons, List.length_nil, Nat.zero_add]; omega) rfl (fun A23 c23 => ?_)
        refine ae ?_
        refine cG rfl ?_
        refine cK (i := 7) rfl (by kernel_rfl) rfl ?_
        refine aS bU rfl rfl rfl (.s (.s (.s (.s (.s (.s (.s (.z)))))))) rfl rfl rfl rfl ?_
        refine ae ?_
        refine cG rfl ?_
        refine ew (by kernel_rfl) ?_
        refine bV ?_
        refine eO ((out ++ [(⟨(ys.getD j bO).e, A21, c21, B21, d21⟩ : Le)], A23, c23)) ?_ (fun w h => by
  have h2 := (h.weak (.cons _ (.cons_cons _ (.cons_cons _ (List.Sublist.refl _)))) (fun s hs => hs)).intoE2
  show Hp _ _ (_ :: _ :: Ch.rall ((out ++ [_]).flatMap ff) :: _) _ _
  rw [List.flatMap_append, List.flatMap_singleton]
  exact h2)
        ·show (out ++ [_] : List Le).map (fun x : Le => x.e) = (List.map _ (pre ++ [_])).map (fun x : Le => x.e)
         rw [List.map_append, hI, List.map_append, List.map_append]; rfl
       refine dF (i := 5) rfl rfl ?_ ?_
       ·skip
        refine bf (vs := [_]) ([(⟨(ys.getD j bO).e, A21, c21, B21, d21⟩ : Le)] : List (Le)) bl Try.underlying22 a7 rfl rfl rfl rfl rfl rfl (fun As25 => ?_)
        refine ae ?_
        refine cQ (aL 3) ?_
        refine cK (i := 0) rfl (by kernel_rfl) rfl ?_
        refine ap (aG 7 bU rfl rfl rfl) rfl rfl ?_
        refine ae ?_
        refine cQ (aL 3) ?_
        refine cK (i := 6) rfl (by kernel_rfl) rfl ?_
        refine dh (enc := d4) (sz := 7) [(⟨(ys.getD j bO).e, A21, c21, B21, d21⟩ : Le)] Try.underlying22 a7 rfl rfl rfl (fun A c => (.s (.s (.s (.s (.s (.s (.z)))))))) (fj 0 Try.underlying22 rfl) (by simp only [List.length_cons, List.length_nil, Nat.zero_add]; omega) (by simp only [List.length_cons, List.length_nil, Nat.zero_add]; omega) rfl (fun A25 c25 => ?_)
        refine ae ?_
        refine cG rfl ?_
        refine cK (i := 7) rfl (by kernel_rfl) rfl ?_
        refine aS bU rfl rfl rfl (.s (.s (.s (.s (.s (.s (.s (.z)))))))) rfl rfl rfl rfl ?_
        refine ae ?_
        refine cG rfl ?_
        refine ew (by kernel_rfl) ?_
        refine bV ?_
        refine eO ((out ++ [(⟨(ys.getD j bO).e, A21, c21, B21, d21⟩ : Le)], A25, c25)) ?_ (fun w h => by
  have h2 := (h.weak (.cons _ (.cons_cons _ (.cons_cons _ (List.Sublist.refl _)))) (fun s hs => hs)).intoE2
  show Hp _ _ (_ :: _ :: Ch.rall ((out ++ [_]).flatMap ff) :: _) _ _
  rw [List.flatMap_append, List.flatMap_singleton]
  exact h2)
        ·show (out ++ [_] : List Le).map (fun x : Le => x.e) = (List.map _ (pre ++ [_])).map (fun x : Le => x.e)
         rw [List.map_append, hI, List.map_append, List.map_append]; rfl
       exact fR
      exact fR
    ·skip
     obtain ⟨out, Ax, cx⟩ := g
     obtain ⟨xs, hfx, hI⟩ := hI
     dsimp only at hI ⊢
     subst hfx
     have hout : out.map (·.e) = (de m put).map (·.e) := hI.trans (merge_put hmt hyp hys hck hnd)
     refine bV ?_
     refine ao ?_
     refine ar ?_
     refine ar ?_
     refine ah ?_
     refine ap (aG 3 bU rfl rfl rfl) rfl rfl ?_
     refine ap (bI Try.underlying22 rfl) rfl rfl ?_
     refine ap (eo rfl rfl) rfl rfl ?_
     refine aC (t := 85) rfl (fun h27_2 => ?_) (fun h27_2 => ?_)
     ·skip
      refine ae ?_
      refine ao ?_
      refine aI rfl ?_
      refine ar ?_
      refine ah ?_
      refine ap (bm rfl (bu_24)) rfl rfl ?_
      refine aS aZ rfl rfl rfl (.s (.s (.s (.s (.z))))) rfl rfl rfl rfl ?_
      refine ap (ai rfl) rfl rfl ?_
      refine ae ?_
      refine ao ?_
      refine aV ?_
      refine aB ?_
      refine e_lvr ?_
      refine lv_take .z ?_
      refine gX (rs := [.cell 4 24, .tmp 5]) rfl (dn 4 aZ rfl rfl rfl rfl (gy rfl d6)) (fun w hw => ?_)
      have hA : (bM v l full bs ver put drop) = (3, []) := by rw [apply_some hgo hmm, if_pos (by rw [← d7 hout]; omega)]
      have hA1 : (bM v l full bs ver put drop).1 = 3 := congrArg Prod.fst hA
      exact ⟨⟨([], none, 0), by rw [hA]⟩, by rw [hA1, apV_ne (by decide)]; rfl, hw.base, ((hw.weak (List.nil_sublist _) (fun s hs => hs)).nilsl 44 7).rall0.toNews⟩
     ·skip
      refine ae ?_
      refine ao ?_
      refine aN rfl ?_
      refine bd ?_
      refine ao ?_
      refine ar ?_
      refine ah ?_
      refine ap (aF eQ rfl) rfl rfl ?_
      refine ap (aG 5 cW rfl rfl rfl) rfl rfl ?_
      refine ap (aG 3 bU rfl rfl rfl) rfl rfl ?_
      refine ap (bm rfl (bu_24_0_1 _ _ _ _)) rfl rfl ?_
      refine aS aZ rfl rfl rfl (.s (.s (.s (.s (.z))))) rfl rfl rfl rfl ?_
      refine ap (ai rfl) rfl rfl ?_
      refine ae ?_
      refine ao ?_
      refine aV ?_
      refine e_lvr ?_
      refine lv_take .z ?_
      refine gX (rs := [.cell 4 24, .tmp 5]) rfl (dn 4 aZ rfl rfl rfl rfl (gy rfl d6)) (fun w hw => ?_)
      have hA : (bM v l full bs ver put drop) = (0, de m put) := by rw [apply_some hgo hmm, if_neg (by rw [← d7 hout]; omega)]
      have hA1 : (bM v l full bs ver put drop).1 = 0 := congrArg Prod.fst hA
      exact ⟨⟨(out, Ax, cx), by rw [hA]; exact hout⟩, by rw [hA1]; rfl, hw.base, (hw.weak (.cons _ (.cons_cons _ (.cons_cons _ (.cons _ (.cons _ (.cons _ (.cons _ .slnil))))))) (fun s hs => hs)).toNews⟩
    ·skip
     exact hI.elim
  ·skip
   refine ar ?_
   refine ar ?_
   refine ah ?_
   refine ap (aF g8 rfl) rfl rfl ?_
   refine ap (aG 2 ty_4 rfl rfl rfl) rfl rfl ?_
   refine bS (t := 36) rfl (fun h8_1 => ?_) (fun h8_1 => ?_)
   ·skip
    refine ap (ct rfl) rfl rfl ?_
    refine ae ?_
    refine ao ?_
    refine aN rfl ?_
    refine bd ?_
    refine ao ?_
    refine bD (fun w h => (h.weak (.cons _ (.cons_cons _ (.cons_cons _ (.cons_cons _ .slnil)))) (fun s hs => hs)).nilsl 44 7) ?_
    exact J8 ⟨([], none, 0), by rw [h8_1]; rfl⟩ _ (by repeat (first | exact trivial | refine ⟨rfl, ?_⟩))
   ·skip
    refine ap (ct rfl) rfl rfl ?_
    refine ae ?_
    refine ao ?_
    refine aI rfl ?_
    refine ah ?_
    refine ap (aF cL rfl) rfl rfl ?_
    refine ap (aG 3 bU rfl rfl rfl) rfl rfl ?_
    refine d9 rfl ent_42 rfl (c_Clone_en _ _ _ (by omega)) (fun w hw => (ak (bW 0 rfl hw) aO)) (fun ⟨A26, c26⟩ => ?_)
    refine ap (ai rfl) rfl rfl ?_
    refine ae ?_
    refine ao ?_
    refine bD (fun w h => h.weak (.cons_cons _ (.cons _ (.cons_cons _ (.cons_cons _ (.cons_cons _ .slnil))))) (fun s hs => hs)) ?_
    exact J8 ⟨(l, A26, c26), by rw [h8_1]; rfl⟩ _ (by repeat (first | exact trivial | refine ⟨rfl, ?_⟩))
end Go.Proofs.Ytnpdgmoeoidppaa
