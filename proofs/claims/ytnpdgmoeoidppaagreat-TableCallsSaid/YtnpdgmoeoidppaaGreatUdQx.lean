import Derived.Test.YtnpdgmoeoidppaaGreatUcQx
/- a push: the program behind it -/
namespace Go.Proofs.YtnpdgmoeoidppaaGreat
open Go.RowKit Go.Shelf
set_option linter.unusedVariables false
set_option linter.unusedSimpArgs false

theorem fg : Tryz.prog.built 24 [] = some [.int .i64 0, .slice none 0 0].toArray := by kernel_rfl
theorem ent_124 : Enters Tryz.prog 124 := enters_of Tryz.func124 (by kernel_rfl) rfl
theorem ent_125 : Enters Tryz.prog 125 := enters_of Tryz.func125 (by kernel_rfl) rfl
theorem ent_126 : Enters Tryz.prog 126 := enters_of Tryz.func126 (by kernel_rfl) rfl
theorem ent_127 : Enters Tryz.prog 127 := enters_of Tryz.func127 (by kernel_rfl) rfl
theorem ent_128 : Enters Tryz.prog 128 := enters_of Tryz.func128 (by kernel_rfl) rfl
theorem ent_129 : Enters Tryz.prog 129 := enters_of Tryz.func129 (by kernel_rfl) rfl
theorem ent_132 : Enters Tryz.prog 132 := enters_of Tryz.func132 (by kernel_rfl) rfl
theorem ent_193 : Enters Tryz.prog 193 := enters_of Tryz.func193 (by kernel_rfl) rfl

theorem Hp.toRd {α : Type} {enc : α → List Value} {ok0 : Nat → Prop} {w0 w : World} {A : Option Addr} {c sz : Nat} {T : TypeId} {xs : List α} {L S : List Ch} (h : Hp ok0 w0 (Ch.ls A c T sz enc xs :: L) S w) : Hp ok0 w0 L (Ch.rd A sz enc xs :: S) w :=
  (h.turn (c' := Ch.rd A sz enc xs) .z sl_rs.1 (sl_rs (w := w)).2).freeze
theorem Hp.back2 {ok0 : Nat → Prop} {w0 w : World} {a b c d : Ch} {R S : List Ch} (h : Hp ok0 w0 (a :: b :: c :: d :: R) S w) : Hp ok0 w0 ((a :: b :: R) ++ [c, d]) S w :=
  h.perm (.cons _ (.cons _ (List.perm_append_comm (l₁ := R) (l₂ := [c, d]))))
theorem Hp.intoE2 {ok0 : Nat → Prop} {w0 w : World} {r d' : Ch} {M L S : List Ch} {e : En} {A B : Option Addr} {c d : Nat} {T1 T2 : TypeId} (h : Hp ok0 w0 (Ch.ls B d T1 1 fh e.ports :: Ch.ls A c T2 3 gw e.addrs :: r :: d' :: Ch.rall M :: L) S w) : Hp ok0 w0 (r :: d' :: Ch.rall (M ++ fm ⟨e, A, c, B, d⟩) :: L) S w := by
  have h1 := h.perm (L' := Ch.ls B d T1 1 fh e.ports :: Ch.ls A c T2 3 gw e.addrs :: Ch.rall M :: r :: d' :: L) (.cons _ (.cons _ (List.perm_middle (l₁ := [r, d'])).symm))
  exact h1.intoE.perm (List.perm_middle (l₁ := [r, d']))
def apV (e ver : Int) : Int := if e = 0 then ver else 0
theorem ey {e : Int} (h : e ≠ 0) (ver : Int) : apV e ver = 0 := if_neg h
section
variable {v : Int} {l : List Le} {full : Bool} {bs ver : Int} {put : List Le} {drop : List a6}
theorem apply_err {k : Nat} (hk : k < 3) (h : ∀ q, q < k → [bI v l, dA v full bs ver drop.length, ct put drop].getD q 0 = 0) (h2 : [bI v l, dA v full bs ver drop.length, ct put drop].getD k 0 ≠ 0) : (bx v l full bs ver put drop) = ([bI v l, dA v full bs ver drop.length, ct put drop].getD k 0, []) := by
  match k, hk with
  | 0, _ => exact if_pos h2
  | 1, _ =>
    have h0 : bI v l = 0 := h 0 (by decide)
    rw [bx, if_neg (fun q => q h0)]; exact if_pos h2
  | 2, _ =>
    have h0 : bI v l = 0 := h 0 (by decide)
    have h1 : dA v full bs ver drop.length = 0 := h 1 (by decide)
    rw [bx, if_neg (fun q => q h0), if_neg (fun q => q h1)]; exact if_pos h2
theorem apply_go (h : ∀ q, q < 3 → [bI v l, dA v full bs ver drop.length, ct put drop].getD q 0 = 0) : bI v l = 0 ∧ dA v full bs ver drop.length = 0 ∧ ct put drop = 0 := ⟨h 0 (by decide), h 1 (by decide), h 2 (by decide)⟩
theorem ji (h : bI v l = 0 ∧ dA v full bs ver drop.length = 0 ∧ ct put drop = 0) (hd : ce (if full = true then [] else l) drop = none) : (bx v l full bs ver put drop) = (5, []) := by
  rw [bx, if_neg (fun q => q h.1), if_neg (fun q => q h.2.1), if_neg (fun q => q h.2.2), hd]
theorem fE (h : bI v l = 0 ∧ dA v full bs ver drop.length = 0 ∧ ct put drop = 0) {m : List Le} (hd : ce (if full = true then [] else l) drop = some m) : (bx v l full bs ver put drop) = if 256 < (dz m put).length then (3, []) else (0, dz m put) := by
  rw [bx, if_neg (fun q => q h.1), if_neg (fun q => q h.2.1), if_neg (fun q => q h.2.2), hd]
theorem base_tbe (h : bI v l = 0) : TbE ((if full = true then [] else l).map (·.e)) := by
  cases full
  · exact gA h
  · exact tbe_nil
theorem base_sub : ∀ x ∈ (if full = true then [] else l), x ∈ l := fun x hx => by
  cases full
  · exact hx
  · cases hx
theorem base_len : (if full = true then [] else l).length ≤ l.length := by
  cases full
  · exact Nat.le_refl _
  · exact Nat.zero_le _
theorem drop_go {m : List Le} {n : a6} {r : List a6} {k : Nat} (hl : b8 (m.map (·.e)) (a7 n) = some (m.getD k bm).e) (he : m.eraseIdx k = m.filter fun y => decide (a7 y.e.host ≠ a7 n)) : ce m (n :: r) = ce (m.eraseIdx k) r := by
  rw [ce, hl, if_pos (show (some (m.getD k bm).e).isSome = true from rfl), he]
theorem drop_stop {m : List Le} {n : a6} {r : List a6} (hl : b8 (m.map (·.e)) (a7 n) = none) : ce m (n :: r) = none := by
  rw [ce, hl]; rfl
end
theorem pr_old {l p : List Le} {e : Option Nat × Option Nat} {B : Option Addr} (h : (∃ a, a < l.length ∧ e = (some a, none)) ∨ ∃ oa b, b < p.length ∧ e = (oa, some b) ∧ ∀ a, oa = some a → a < l.length) (hn : (ptA B e.2).isNone = true) : ∃ i, i < l.length ∧ e = (some i, none) := by
  rcases h with ⟨a, ha, rfl⟩ | ⟨oa, b, hb, rfl, _⟩
  · exact ⟨a, ha, rfl⟩
  · cases hn
theorem pr_new {l p : List Le} {e : Option Nat × Option Nat} {B : Option Addr} (h : (∃ a, a < l.length ∧ e = (some a, none)) ∨ ∃ oa b, b < p.length ∧ e = (oa, some b) ∧ ∀ a, oa = some a → a < l.length) (hn : (ptA B e.2).isNone = false) : ∃ oa j, j < p.length ∧ e = (oa, some j) ∧ ∀ a, oa = some a → a < l.length := by
  rcases h with ⟨a, ha, rfl⟩ | ⟨oa, b, hb, rfl, h⟩
  · cases hn
  · exact ⟨oa, b, hb, rfl, h⟩

theorem TbOk.mem17 {l : List Le} (h : TbOk l) {z : Le} (hz : z ∈ l) : EnB z.e := by
  obtain ⟨h1, h2⟩ := h z hz
  have h3 := jW h2
  exact ⟨h1.lo, by omega, by omega, h1.2.1, by omega, by omega⟩

set_option maxRecDepth 100000 in
set_option maxHeartbeats 4000000 in
theorem dY (v : Int) (l : List Le) (A : Option Addr) (c : Nat) (full : Bool) (bs ver : Int) (put : List Le) (P : Option Addr) (pc : Nat) (drop : List a6) (D : Option Addr) (dc : Nat) (hok : TbOk l) (hpok : TbOk put) (hl : l.length ≤ 1000) (hpl : put.length ≤ 1000) (hdl : drop.length ≤ 1000) (hdb : ∀ n ∈ drop, n.length ≤ 1000) : RC Tryz.prog 55 #[.agg (eE v A l.length c).toArray, .agg (er full bs ver P put.length pc D drop.length dc).toArray] [Ch.rd A 7 dF l, Ch.rall (l.flatMap fm), Ch.rd P 7 dF put, Ch.rall (put.flatMap fm), Ch.rd D 1 dD drop] (α := {o : List Le × Option Addr × Nat // o.1.map (·.e) = (bx v l full bs ver put drop).2.map (·.e)}) (fun o => .tuple #[.agg (eE (apV (bx v l full bs ver put drop).1 ver) o.1.2.1 o.1.1.length o.1.2.2).toArray, .int .i64 (bx v l full bs ver put drop).1]) (fun o => [Ch.rall (o.1.1.flatMap fm), Ch.ls o.1.2.1 o.1.2.2 34 7 dF o.1.1]) := by
 refine rc_of_WM (args := [.agg (eE v A l.length c).toArray, .agg (er full bs ver P put.length pc D drop.length dc).toArray]) 91 Tryz.func55 rfl rfl rfl (fun w0 => ?_)
 have hph : ∀ x ∈ put, x.e.host.length ≤ 1000000000 := fun x hx => by have := (hpok.mem17 hx).h; omega
 refine ap ?_
 refine ae ?_
 refine cL rfl rfl rfl (fun b1 => ?_)
 refine cL rfl rfl rfl (fun b2 => ?_)
 refine bH bw rfl rfl (fun b3 => ?_)
 refine aq (ai rfl) rfl rfl ?_
 refine aa ?_
 refine aj ?_
 refine ap ?_
 refine ap ?_
 refine ik 10 mixed ?_
 refine cB (i := 0) rfl ak (bu 2 bw rfl rfl rfl rfl) aG aG rfl (ah (ah aw)) (by kernel_rfl) rfl ?_
 refine cB (i := 2) rfl ak (bu 2 bw rfl rfl rfl rfl) aG aG rfl (ah (ah aw)) (by kernel_rfl) rfl ?_
 refine cB (i := 3) rfl ak (bu 1 bL rfl rfl rfl rfl) aG aG rfl (ah (ah aw)) (by kernel_rfl) rfl ?_
 refine cB (i := 5) rfl ak (bu 1 bL rfl rfl rfl rfl) aG aG rfl (ah (ah aw)) (by kernel_rfl) rfl ?_
 refine cB (i := 9) rfl ak (am rfl) aG aG rfl (ah (ah aw)) (by kernel_rfl) rfl ?_
 refine cS (i := 1) rfl (by kernel_rfl) rfl ?_
 refine bA rfl ent_61 rfl (e6 _ _ _ _ hok (by omega)) (fun w hw => (az (bo 0 rfl hw) (az (bo 1 rfl hw) aY))) ?_
 refine aa ?_
 refine dg aG ?_
 refine cS (i := 4) rfl (by kernel_rfl) rfl ?_
 refine bA rfl ent_124 rfl (c_form17 v l A c full bs ver put P pc drop D dc) (fun w hw => aY) ?_
 refine aa ?_
 refine dg aG ?_
 refine cS (i := 6) rfl (by kernel_rfl) rfl ?_
 refine bA rfl ent_125 rfl (c_parts17 full bs ver put P pc drop D dc hpok (by omega) (by omega) (fun n hn => by have := hdb n hn; omega)) (fun w hw => (az (bo 2 rfl hw) (az (bo 3 rfl hw) (az (bo 4 rfl hw) aY)))) ?_
 refine aa ?_
 refine dg aG ?_
 refine cS (i := 7) rfl (by kernel_rfl) rfl ?_
 refine bY (vs := [_, _, _]) ([bI v l, dA v full bs ver drop.length, ct put drop] : List (Int)) fL Tryz.underlying180 ty_40 rfl rfl rfl rfl rfl rfl (fun As4 => ?_)
 refine aa ?_
 refine dg (bq 1) ?_
 refine cB (i := 8) rfl ak (bg Tryz.underlying180 rfl) (bq 1) aG rfl (ah (ah aw)) (by kernel_rfl) rfl ?_
 refine eQ (by kernel_rfl) ?_
 refine aj ?_
 refine aS ?_
 refine cC (σ := Nat) [5, 7, 26, 27, 28, 29, 30, 31, 32, 33, 34] (fun k => k ≤ 3 ∧ ∀ q, q < k → [bI v l, dA v full bs ver drop.length, ct put drop].getD q 0 = 0) (fun k => 3 - k) (fun k => [(26, .int .i64 k)]) (0) ?_ ⟨rfl, trivial⟩ (fun k hI => ?_)
 ·exact ⟨Nat.zero_le _, nofun⟩
 refine ap ?_
 refine ae ?_
 refine aq (bW rfl rfl) rfl rfl ?_
 refine ay (t := 27) rfl (fun h2_0 => ?_) (fun h2_0 => ?_)
 ·skip
  have hk : k < 3 := by first | omega | (simp only [List.length_cons, List.length_nil] at h2_0; omega)
  refine aa ?_
  refine aj ?_
  refine ap ?_
  refine aA rfl ?_
  refine aQ ?_
  refine aj ?_
  refine ap ?_
  refine aS ?_
  refine ap ?_
  refine ae ?_
  refine aq (bB  Tryz.underlying180 ty_40 rfl rfl (dL 0 rfl) rfl (by first | omega | (simp only [List.length_cons, List.length_nil]; omega))) rfl rfl ?_
  refine aq (bZ fL (0 : Int) ty_40 rfl (dL 0 rfl) (by first | omega | (simp only [List.length_cons, List.length_nil]; omega)) rfl rfl) rfl rfl ?_
  refine aq (ai rfl) rfl rfl ?_
  refine aa ?_
  refine aj ?_
  refine ap ?_
  refine ae ?_
  refine aq (am rfl) rfl rfl ?_
  refine aq (cO rfl rfl) rfl rfl ?_
  refine ay (t := 31) rfl (fun h4_1 => ?_) (fun h4_1 => ?_)
  ·skip
   refine aa ?_
   refine aj ?_
   refine aA rfl ?_
   refine ap ?_
   refine ae ?_
   refine aq (bP rfl (fg)) rfl rfl ?_
   refine aq (am rfl) rfl rfl ?_
   refine aW bw rfl rfl rfl (.s (.z)) rfl rfl rfl rfl ?_
   refine aq (ai rfl) rfl rfl ?_
   refine aa ?_
   refine aj ?_
   refine aN ?_
   refine aJ ?_
   refine ax ?_
   refine bh ?_
   refine aJ ?_
   refine ax ?_
   refine e_lvr ?_
   refine iG (rs := [.cell 4 24, .tmp 5]) rfl (bQ 1 bw rfl rfl rfl rfl (dv rfl cG)) (fun w hw => ?_)
   have hA := apply_err hk hI.2 h4_1
   have hA1 : (bx v l full bs ver put drop).1 = [bI v l, dA v full bs ver drop.length, ct put drop].getD k 0 := congrArg Prod.fst hA
   exact ⟨⟨([], none, 0), by rw [hA]⟩, by rw [hA1, ey h4_1]; rfl, hw.base, ((hw.weak (List.nil_sublist _) (fun s hs => hs)).nilsl 34 7).rall0.toNews⟩
  ·skip
   refine aa ?_
   refine aj ?_
   refine aD rfl ?_
   refine aQ ?_
   refine bj ?_
   refine aj ?_
   refine ae ?_
   refine aq (br rfl rfl (by omega) (by omega)) rfl rfl ?_
   refine aq (am rfl) rfl rfl ?_
   refine aa ?_
   refine bv (k + 1) ?_ ?_ ⟨rfl, trivial⟩ (by repeat (first | exact trivial | refine ⟨rfl, ?_⟩)) aG
   ·refine ⟨by omega, fun q hq => ?_⟩
    by_cases e : q = k
    · rw [e]; exact Decidable.not_not.1 h4_1
    · exact hI.2 q (by omega)
   ·omega
 ·skip
  have hk3 : 3 ≤ k := by first | omega | (simp only [List.length_cons, List.length_nil] at h2_0; omega)
  refine aa ?_
  refine aj ?_
  refine ap ?_
  refine aD rfl ?_
  refine bJ ?_
  refine aV ?_
  refine aX ?_
  refine a8 ?_
  refine aj ?_
  refine ap ?_
  have hgo := apply_go (v := v) (l := l) (full := full) (bs := bs) (ver := ver) (put := put) (drop := drop) (fun q hq => hI.2 q (by omega))
  refine ae ?_
  refine aq (ai rfl) rfl rfl ?_
  refine aa ?_
  refine aj ?_
  refine w_joinL (σ := {q : List Le × Option Addr × Nat // q.1 = (if full = true then [] else l)}) (fun g => [(8, .slice g.1.2.1 g.1.1.length g.1.2.2)]) (fun g => [Ch.ls g.1.2.1 g.1.2.2 34 7 dF g.1.1, Ch.row b3 (eE 0 none 0 0) 24, Ch.row b2 (er full bs ver P put.length pc D drop.length dc) 103, Ch.row b1 (eE v A l.length c) 24]) (fun g => ?_) (fun J8 => ?_)
  ·skip
   obtain ⟨⟨m0, A0, c0⟩, hm0⟩ := g
   dsimp only at hm0 ⊢
   refine ap ?_
   refine ap ?_
   refine ae ?_
   refine aq (aB cP rfl) rfl rfl ?_
   refine aq (aC 2 ew rfl rfl rfl) rfl rfl ?_
   refine aq (bg Tryz.underlying59 rfl) rfl rfl ?_
   refine aq (am rfl) rfl rfl ?_
   refine aa ?_
   refine aj ?_
   refine aS ?_
   refine dn (σ := Nat × List Le × Option Addr × Nat) [5, 8, 10, 11, 12, 44, 45, 46, 47, 48, 49, 50, 51, 52, 53, 54, 55, 56, 57, 58, 59, 60, 61, 62] (fun q => q.1 ≤ drop.length ∧ ce (if full = true then [] else l) drop = ce q.2.1 (drop.drop q.1) ∧ TbE (q.2.1.map (·.e)) ∧ (∀ x ∈ q.2.1, x ∈ l) ∧ q.2.1.length ≤ l.length) (fun q => drop.length - q.1) (fun q => [(44, .int .i64 q.1), (8, .slice q.2.2.1 q.2.1.length q.2.2.2)]) (fun q => Ch.ls q.2.2.1 q.2.2.2 34 7 dF q.2.1) ((0, m0, A0, c0)) ?_ ⟨rfl, rfl, trivial⟩ rfl (fun q hI => ?_)
   ·rw [hm0]
    exact ⟨Nat.zero_le _, rfl, base_tbe hgo.1, base_sub, base_len⟩
   obtain ⟨k, m, Am, cm⟩ := q
   dsimp only at hI ⊢
   refine ap ?_
   refine ae ?_
   refine aq (bW rfl rfl) rfl rfl ?_
   refine ay (t := 45) rfl (fun h11_0 => ?_) (fun h11_0 => ?_)
   ·skip
    have hk : k < drop.length := by omega
    have hnm := aZ (d := ([] : a6)) hk
    have hn0 := (parts_zero.1 hgo.2.2).2.1 _ hnm
    have hnl : (drop.getD k []).length ≤ 1000000 := by have := hdb _ hnm; omega
    have hml : m.length ≤ 1000000 := by omega
    have hmh : ∀ x ∈ m, x.e.host.length ≤ 1000000000 := fun x hx => by have := (hok.mem17 (hI.2.2.2.1 x hx)).h; omega
    refine aa ?_
    refine aj ?_
    refine ap ?_
    refine aA rfl ?_
    refine aQ ?_
    refine aj ?_
    refine ap ?_
    refine aS ?_
    refine ap ?_
    refine ae ?_
    refine aq (bB  Tryz.underlying59 bE rfl rfl (bF 4 rfl) rfl (by omega)) rfl rfl ?_
    refine aq (bZ bV ([] : a6) bE rfl (bF 4 rfl) (by omega) rfl rfl) rfl rfl ?_
    refine aq (ai rfl) rfl rfl ?_
    refine aa ?_
    refine aj ?_
    refine ap ?_
    refine ae ?_
    refine aq (am rfl) rfl rfl ?_
    refine aq (am rfl) rfl rfl ?_
    refine eT rfl ent_127 rfl (c_tfind m Am cm (drop.getD k []) hI.2.2.1 hml hn0 hnl hmh) (fun w hw => (az (ci 0 rfl hw) aY)) (fun ⟨fk, hfk⟩ => ?_)
    refine aq (am rfl) rfl rfl ?_
    refine aq (bn rfl rfl) rfl rfl ?_
    refine aq (bn rfl rfl) rfl rfl ?_
    refine bN (t := 53) rfl (fun h13_5 => ?_) (fun h13_5 => ?_)
    ·skip
     obtain ⟨hfl, hfl2, hfe⟩ := fd_yes hI.2.2.1 hn0 h13_5
     refine aq (ai rfl) rfl rfl ?_
     refine aq (ai rfl) rfl rfl ?_
     refine aa ?_
     refine aj ?_
     refine ap ?_
     refine ap ?_
     refine ae ?_
     refine aq (am rfl) rfl rfl ?_
     refine aq (bS rfl) rfl rfl ?_
     refine aa ?_
     refine aj ?_
     refine aD rfl ?_
     refine aQ ?_
     refine aj ?_
     refine ae ?_
     refine aq (am rfl) rfl rfl ?_
     refine aq (am rfl) rfl rfl ?_
     refine aq (am rfl) rfl rfl ?_
     refine aq (br rfl rfl (by omega) (by omega)) rfl rfl ?_
     refine f0 rfl ent_128 rfl (c_Delete m Am cm fk hfl hml) (fun o => .z) (List.mem_of_getElem? (i := 0) rfl) (fun s hs => nomatch hs) (fun o5 => ?_)
     refine aq (ai rfl) rfl rfl ?_
     refine aa ?_
     refine bj ?_
     refine aj ?_
     refine ae ?_
     refine aq (br rfl rfl (by omega) (by omega)) rfl rfl ?_
     refine aq (am rfl) rfl rfl ?_
     refine aa ?_
     refine bv ((k + 1, m.eraseIdx fk, Am, cm)) ?_ ?_ ⟨rfl, rfl, trivial⟩ (by repeat (first | exact trivial | refine ⟨rfl, ?_⟩)) aG
     ·exact ⟨by show k + 1 ≤ _; omega, by show _ = ce (m.eraseIdx fk) (drop.drop (k + 1)); rw [hI.2.1, bG drop ([] : a6) k hk]; exact drop_go hfl2 hfe, hI.2.2.1.sub ((List.eraseIdx_sublist m fk).map _), fun x hx => hI.2.2.2.1 x ((List.eraseIdx_sublist m fk).subset hx), Nat.le_trans (List.eraseIdx_sublist m fk).length_le hI.2.2.2.2⟩
     ·show drop.length - (k + 1) < drop.length - k
      omega
    ·skip
     refine aq (ai rfl) rfl rfl ?_
     refine aq (ai rfl) rfl rfl ?_
     refine aa ?_
     refine aj ?_
     refine ap ?_
     refine ap ?_
     refine ae ?_
     refine aq (am rfl) rfl rfl ?_
     refine aq (bS rfl) rfl rfl ?_
     refine aa ?_
     refine aj ?_
     refine aA rfl ?_
     refine ap ?_
     refine ae ?_
     refine aq (bP rfl (fg)) rfl rfl ?_
     refine aW bw rfl rfl rfl (.s (.z)) rfl rfl rfl rfl ?_
     refine aq (ai rfl) rfl rfl ?_
     refine aa ?_
     refine aj ?_
     refine aN ?_
     refine ax ?_
     refine aJ ?_
     refine ax ?_
     refine bh ?_
     refine aJ ?_
     refine ax ?_
     refine e_lvr ?_
     refine iG (rs := [.cell 4 24, .tmp 5]) rfl (bQ 1 bw rfl rfl rfl rfl (dv rfl cG)) (fun w hw => ?_)
     have hA := ji hgo (by rw [hI.2.1, bG drop ([] : a6) k hk]; exact drop_stop (fd_no hI.2.2.1 hn0 hfk h13_5))
     have hA1 : (bx v l full bs ver put drop).1 = 5 := congrArg Prod.fst hA
     exact ⟨⟨([], none, 0), by rw [hA]⟩, by rw [hA1, ey (by decide)]; rfl, hw.base, ((hw.weak (List.nil_sublist _) (fun s hs => hs)).nilsl 34 7).rall0.toNews⟩
   ·skip
    refine aa ?_
    refine aj ?_
    refine ap ?_
    refine aD rfl ?_
    refine bJ ?_
    refine aV ?_
    refine aX ?_
    refine a8 ?_
    refine aj ?_
    refine ap ?_
    have hmm : ce (if full = true then [] else l) drop = some m := by rw [hI.2.1, List.drop_of_length_le (by omega)]; rfl
    have hmt := hI.2.2.1
    have hsub := hI.2.2.2.1
    have hmh : ∀ x ∈ m, x.e.host.length ≤ 1000000000 := fun x hx => by have := (hok.mem17 (hsub x hx)).h; omega
    have hck : ∀ x ∈ put, bd x.e.host = 0 := fun x hx => j3 ((parts_zero.1 hgo.2.2).1 x hx)
    have hnd := (List.nodup_append.1 (parts_zero.1 hgo.2.2).2.2).1
    refine ae ?_
    refine aq (aB cE rfl) rfl rfl ?_
    refine aq (aC 2 bz rfl rfl rfl) rfl rfl ?_
    refine dE rfl ent_126 rfl (c_Clone_en _ _ _ (by omega)) (fun w hw => (az (bo 2 rfl hw) aY)) (fun ⟨Ap, cp⟩ => ?_)
    refine aq (ai rfl) rfl rfl ?_
    refine aa ?_
    refine aj ?_
    refine ap ?_
    refine ae ?_
    refine aq (am rfl) rfl rfl ?_
    refine f0 rfl ent_129 rfl (c_Sort_en Ap cp put (by omega) hph) (fun o => .z) (List.mem_of_getElem? (i := 0) rfl) (fun s hs => nomatch hs) (fun ⟨ys, hyp, hys⟩ => ?_)
    refine aa ?_
    refine aj ?_
    refine ap ?_
    refine ae ?_
    refine bH bz rfl rfl (fun b9 => ?_)
    refine aa ?_
    refine aj ?_
    refine ap ?_
    refine ap ?_
    refine ae ?_
    refine aq (am rfl) rfl rfl ?_
    refine aq (am rfl) rfl rfl ?_
    refine eo (t := 69) (.slice Ap ys.length cp) rfl (by rw [hyp.length_eq]) ?_
    have hyl := hyp.length_eq
    have hyh : ∀ x ∈ ys, x.e.host.length ≤ 1000000000 := fun x hx => hph x (hyp.mem_iff.1 hx)
    refine bU rfl ent_132 rfl (c_pairs Am Ap m.length ys.length cm cp) (fun w hw => aY) (fun ⟨pa, pb⟩ => ?_)
    refine wl_fact (p := m.length ≤ cm) (cap_L 4 rfl) (fun hmc => ?_)
    refine wl_fact (p := ys.length ≤ cp) (cap_L 3 rfl) (fun hyc => ?_)
    refine wl_heap (fun w h => h.f3.toRd.f3.toRd) ?_
    refine aa ?_
    refine aj ?_
    refine aS ?_
    refine cz (fun w h => (h.nilsl 34 7).rall0) ?_
    refine w_rangeG (σ := List Le × Option Addr × Nat) (fun pre g => g.1.map (·.e) = (pre.map fun q => outV (g9 m ys q)).map (·.e)) (fun c pre g => False) (fun g => [Ch.rall (g.1.flatMap fm), Ch.ls g.2.1 g.2.2 34 7 dF g.1, Ch.row b9 [.slice g.2.1 g.1.length g.2.2] 22, Ch.row b3 (eE 0 none 0 0) 24, Ch.row b2 (er full bs ver P put.length pc D drop.length dc) 103, Ch.row b1 (eE v A l.length c) 24]) (([], none, 0)) rfl rfl ent_193 (c_pairs1 m ys Am Ap cm cp pa pb hmc hyc (by omega) (by omega) hmh hyh) (List.forall_mem_cons.2 ⟨.head _, List.forall_mem_cons.2 ⟨.tail _ (.head _), nofun⟩⟩) rfl (fun _ => rfl) (rfl) (fun w h => h.back2) (fun pre e g hxs hI lr D r hr okb wb => ?_) (fun g D0 hI => ?_) (fun c pre g D0 hxs hI => ?_)
    ·skip
     obtain ⟨out, Ax, cx⟩ := g
     obtain ⟨post, hxs⟩ := hxs
     dsimp only at hI ⊢
     have hlen9 := gl (l := m) (p := ys) _ 0 0 (Nat.le_refl _)
     have hol := eG hI
     rw [hxs] at hlen9
     simp only [List.length_append, List.length_map, List.length_cons, List.length_nil] at hlen9 hol
     have hem := gk (l := m) (p := ys) _ 0 0 e (Nat.le_refl _) (by rw [hxs]; simp)
     refine ap ?_
     refine ae ?_
     refine aq (ai rfl) rfl rfl ?_
     refine aa ?_
     refine aj ?_
     refine ae ?_
     refine aq (ai rfl) rfl rfl ?_
     refine aa ?_
     refine e_begin rfl hr .z ?_
     refine aS ?_
     refine ap ?_
     refine ap ?_
     refine ae ?_
     refine aq (am rfl) rfl rfl ?_
     refine aq (y_eqp Tryz.underlying190 rfl rfl) rfl rfl ?_
     refine bN (t := 74) rfl (fun h24_1 => ?_) (fun h24_1 => ?_)
     ·skip
      obtain ⟨i, hi, rfl⟩ := pr_old hem h24_1
      have hbx := hok.mem17 (hsub _ (aZ (d := bm) hi))
      refine aa ?_
      refine aj ?_
      refine aA rfl ?_
      refine ae ?_
      refine aq (am rfl) rfl rfl ?_
      refine aq (ai rfl) rfl rfl ?_
      refine aa ?_
      refine aj ?_
      refine ik 6 mixed ?_
      refine cB (i := 1) rfl ak (am rfl) aG aG rfl (ao db) (by kernel_rfl) rfl ?_
      refine cB (i := 2) rfl ak (cR rfl) aG aG rfl (ao db) (by kernel_rfl) rfl ?_
      refine cB (i := 3) rfl ak (b6 bp bm aU rfl (bF 0 rfl) hi rfl rfl rfl) aG aG rfl (ao db) (by kernel_rfl) rfl ?_
      refine iC (js := [0, 4]) (by kernel_rfl) rfl ?_
      refine dX (i := 0) rfl rfl ?_ ?_
      ·skip
       refine aq (aC 4 bz rfl rfl rfl) rfl rfl ?_
       refine aa ?_
       refine dg aG ?_
       refine cS (i := 4) rfl (by kernel_rfl) rfl ?_
       refine bU rfl ent_69 rfl (fZ (m.getD i bm).e (m.getD i bm).A (m.getD i bm).B (m.getD i bm).c (m.getD i bm).d (by have := hbx.la; omega) (by have := hbx.lp; omega)) (fun w hw => (az (cJ (bo 3 rfl hw) (bM (hsub _ (aZ hi)) _ (hU _))) (az (cJ (bo 3 rfl hw) (bM (hsub _ (aZ hi)) _ (im _))) aY))) (fun ⟨A10, c10, B10, d10⟩ => ?_)
       refine aa ?_
       refine dg (bq 2) ?_
       refine cS (i := 5) rfl (by kernel_rfl) rfl ?_
       refine bY (vs := [_]) ([(⟨(m.getD i bm).e, A10, c10, B10, d10⟩ : Le)] : List (Le)) bp Tryz.underlying22 aU rfl rfl rfl rfl rfl rfl (fun As12 => ?_)
       refine aa ?_
       refine dg (bq 3) ?_
       refine cS (i := 6) rfl (by kernel_rfl) rfl ?_
       refine cv (enc := dF) (sz := 7) [(⟨(m.getD i bm).e, A10, c10, B10, d10⟩ : Le)] Tryz.underlying22 aU rfl rfl rfl (fun A c => (.s (.s (.s (.s (.s (.s (.z)))))))) (d5 0 Tryz.underlying22 rfl) (by simp only [List.length_cons, List.length_nil, Nat.zero_add]; omega) (by simp only [List.length_cons, List.length_nil, Nat.zero_add]; omega) rfl (fun A12 c12 => ?_)
       refine aa ?_
       refine cQ rfl ?_
       refine cS (i := 7) rfl (by kernel_rfl) rfl ?_
       refine aW bz rfl rfl rfl (.s (.s (.s (.s (.s (.s (.s (.z)))))))) rfl rfl rfl rfl ?_
       refine aa ?_
       refine cQ rfl ?_
       refine eQ (by kernel_rfl) ?_
       refine bj ?_
       refine fq ((out ++ [(⟨(m.getD i bm).e, A10, c10, B10, d10⟩ : Le)], A12, c12)) ?_ (fun w h => by
  have h2 := (h.weak (.cons _ (.cons_cons _ (.cons_cons _ (List.Sublist.refl _)))) (fun s hs => hs)).intoE2
  show Hp _ _ (_ :: _ :: Ch.rall ((out ++ [_]).flatMap fm) :: _) _ _
  rw [List.flatMap_append, List.flatMap_singleton]
  exact h2)
       ·show (out ++ [_] : List Le).map (fun x : Le => x.e) = (List.map _ (pre ++ [_])).map (fun x : Le => x.e)
        rw [List.map_append, hI, List.map_append, List.map_append]; rfl
      refine dX (i := 4) rfl rfl ?_ ?_
      ·skip
       refine bU rfl ent_69 rfl (fZ (m.getD i bm).e (m.getD i bm).A (m.getD i bm).B (m.getD i bm).c (m.getD i bm).d (by have := hbx.la; omega) (by have := hbx.lp; omega)) (fun w hw => (az (cJ (bo 3 rfl hw) (bM (hsub _ (aZ hi)) _ (hU _))) (az (cJ (bo 3 rfl hw) (bM (hsub _ (aZ hi)) _ (im _))) aY))) (fun ⟨A13, c13, B13, d13⟩ => ?_)
       refine aa ?_
       refine dg (bq 2) ?_
       refine iC (js := [0, 5]) (by kernel_rfl) rfl ?_
       refine dX (i := 0) rfl rfl ?_ ?_
       ·skip
        refine aq (aC 6 bz rfl rfl rfl) rfl rfl ?_
        refine aa ?_
        refine dg (bq 2) ?_
        refine cS (i := 5) rfl (by kernel_rfl) rfl ?_
        refine bY (vs := [_]) ([(⟨(m.getD i bm).e, A13, c13, B13, d13⟩ : Le)] : List (Le)) bp Tryz.underlying22 aU rfl rfl rfl rfl rfl rfl (fun As15 => ?_)
        refine aa ?_
        refine dg (bq 3) ?_
        refine cS (i := 6) rfl (by kernel_rfl) rfl ?_
        refine cv (enc := dF) (sz := 7) [(⟨(m.getD i bm).e, A13, c13, B13, d13⟩ : Le)] Tryz.underlying22 aU rfl rfl rfl (fun A c => (.s (.s (.s (.s (.s (.s (.z)))))))) (d5 0 Tryz.underlying22 rfl) (by simp only [List.length_cons, List.length_nil, Nat.zero_add]; omega) (by simp only [List.length_cons, List.length_nil, Nat.zero_add]; omega) rfl (fun A15 c15 => ?_)
        refine aa ?_
        refine cQ rfl ?_
        refine cS (i := 7) rfl (by kernel_rfl) rfl ?_
        refine aW bz rfl rfl rfl (.s (.s (.s (.s (.s (.s (.s (.z)))))))) rfl rfl rfl rfl ?_
        refine aa ?_
        refine cQ rfl ?_
        refine eQ (by kernel_rfl) ?_
        refine bj ?_
        refine fq ((out ++ [(⟨(m.getD i bm).e, A13, c13, B13, d13⟩ : Le)], A15, c15)) ?_ (fun w h => by
  have h2 := (h.weak (.cons _ (.cons_cons _ (.cons_cons _ (List.Sublist.refl _)))) (fun s hs => hs)).intoE2
  show Hp _ _ (_ :: _ :: Ch.rall ((out ++ [_]).flatMap fm) :: _) _ _
  rw [List.flatMap_append, List.flatMap_singleton]
  exact h2)
        ·show (out ++ [_] : List Le).map (fun x : Le => x.e) = (List.map _ (pre ++ [_])).map (fun x : Le => x.e)
         rw [List.map_append, hI, List.map_append, List.map_append]; rfl
       refine dX (i := 5) rfl rfl ?_ ?_
       ·skip
        refine bY (vs := [_]) ([(⟨(m.getD i bm).e, A13, c13, B13, d13⟩ : Le)] : List (Le)) bp Tryz.underlying22 aU rfl rfl rfl rfl rfl rfl (fun As17 => ?_)
        refine aa ?_
        refine dg (bq 3) ?_
        refine cS (i := 0) rfl (by kernel_rfl) rfl ?_
        refine aq (aC 7 bz rfl rfl rfl) rfl rfl ?_
        refine aa ?_
        refine dg (bq 3) ?_
        refine cS (i := 6) rfl (by kernel_rfl) rfl ?_
        refine cv (enc := dF) (sz := 7) [(⟨(m.getD i bm).e, A13, c13, B13, d13⟩ : Le)] Tryz.underlying22 aU rfl rfl rfl (fun A c => (.s (.s (.s (.s (.s (.s (.z)))))))) (d5 0 Tryz.underlying22 rfl) (by simp only [List.length_cons, List.length_nil, Nat.zero_add]; omega) (by simp only [List.length_cons, List.length_nil, Nat.zero_add]; omega) rfl (fun A17 c17 => ?_)
        refine aa ?_
        refine cQ rfl ?_
        refine cS (i := 7) rfl (by kernel_rfl) rfl ?_
        refine aW bz rfl rfl rfl (.s (.s (.s (.s (.s (.s (.s (.z)))))))) rfl rfl rfl rfl ?_
        refine aa ?_
        refine cQ rfl ?_
        refine eQ (by kernel_rfl) ?_
        refine bj ?_
        refine fq ((out ++ [(⟨(m.getD i bm).e, A13, c13, B13, d13⟩ : Le)], A17, c17)) ?_ (fun w h => by
  have h2 := (h.weak (.cons _ (.cons_cons _ (.cons_cons _ (List.Sublist.refl _)))) (fun s hs => hs)).intoE2
  show Hp _ _ (_ :: _ :: Ch.rall ((out ++ [_]).flatMap fm) :: _) _ _
  rw [List.flatMap_append, List.flatMap_singleton]
  exact h2)
        ·show (out ++ [_] : List Le).map (fun x : Le => x.e) = (List.map _ (pre ++ [_])).map (fun x : Le => x.e)
         rw [List.map_append, hI, List.map_append, List.map_append]; rfl
       exact gG
      exact gG
     ·skip
      obtain ⟨oi, j, hj, rfl, hoi⟩ := pr_new hem h24_1
      have hbx := hpok.mem17 (hyp.mem_iff.1 (aZ (d := bm) hj))
      refine aa ?_
      refine aj ?_
      refine aD rfl ?_
      refine aQ ?_
      refine aj ?_
      refine ik 6 mixed ?_
      refine cB (i := 1) rfl ak (am rfl) aG aG rfl (ao db) (by kernel_rfl) rfl ?_
      refine cB (i := 2) rfl ak (cR rfl) aG aG rfl (ao db) (by kernel_rfl) rfl ?_
      refine cB (i := 3) rfl ak (b6 bp bm aU rfl (bF 1 rfl) hj rfl rfl rfl) aG aG rfl (ao db) (by kernel_rfl) rfl ?_
      refine iC (js := [0, 4]) (by kernel_rfl) rfl ?_
      refine dX (i := 0) rfl rfl ?_ ?_
      ·skip
       refine aq (aC 4 bz rfl rfl rfl) rfl rfl ?_
       refine aa ?_
       refine dg aG ?_
       refine cS (i := 4) rfl (by kernel_rfl) rfl ?_
       refine bU rfl ent_69 rfl (fZ (ys.getD j bm).e (ys.getD j bm).A (ys.getD j bm).B (ys.getD j bm).c (ys.getD j bm).d (by have := hbx.la; omega) (by have := hbx.lp; omega)) (fun w hw => (az (cJ (bo 5 rfl hw) (bM (hyp.mem_iff.1 (aZ hj)) _ (hU _))) (az (cJ (bo 5 rfl hw) (bM (hyp.mem_iff.1 (aZ hj)) _ (im _))) aY))) (fun ⟨A18, c18, B18, d18⟩ => ?_)
       refine aa ?_
       refine dg (bq 2) ?_
       refine cS (i := 5) rfl (by kernel_rfl) rfl ?_
       refine bY (vs := [_]) ([(⟨(ys.getD j bm).e, A18, c18, B18, d18⟩ : Le)] : List (Le)) bp Tryz.underlying22 aU rfl rfl rfl rfl rfl rfl (fun As20 => ?_)
       refine aa ?_
       refine dg (bq 3) ?_
       refine cS (i := 6) rfl (by kernel_rfl) rfl ?_
       refine cv (enc := dF) (sz := 7) [(⟨(ys.getD j bm).e, A18, c18, B18, d18⟩ : Le)] Tryz.underlying22 aU rfl rfl rfl (fun A c => (.s (.s (.s (.s (.s (.s (.z)))))))) (d5 0 Tryz.underlying22 rfl) (by simp only [List.length_cons, List.length_nil, Nat.zero_add]; omega) (by simp only [List.length_cons, List.length_nil, Nat.zero_add]; omega) rfl (fun A20 c20 => ?_)
       refine aa ?_
       refine cQ rfl ?_
       refine cS (i := 7) rfl (by kernel_rfl) rfl ?_
       refine aW bz rfl rfl rfl (.s (.s (.s (.s (.s (.s (.s (.z)))))))) rfl rfl rfl rfl ?_
       refine aa ?_
       refine cQ rfl ?_
       refine eQ (by kernel_rfl) ?_
       refine bj ?_
       refine fq ((out ++ [(⟨(ys.getD j bm).e, A18, c18, B18, d18⟩ : Le)], A20, c20)) ?_ (fun w h => by
  have h2 := (h.weak (.cons _ (.cons_cons _ (.cons_cons _ (List.Sublist.refl _)))) (fun s hs => hs)).intoE2
  show Hp _ _ (_ :: _ :: Ch.rall ((out ++ [_]).flatMap fm) :: _) _ _
  rw [List.flatMap_append, List.flatMap_singleton]
  exact h2)
       ·show (out ++ [_] : List Le).map (fun x : Le => x.e) = (List.map _ (pre ++ [_])).map (fun x : Le => x.e)
        rw [List.map_append, hI, List.map_append, List.map_append]; rfl
      refine dX (i := 4) rfl rfl ?_ ?_
      ·skip
       refine bU rfl ent_69 rfl (fZ (ys.getD j bm).e (ys.getD j bm).A (ys.getD j bm).B (ys.getD j bm).c (ys.getD j bm).d (by have := hbx.la; omega) (by have := hbx.lp; omega)) (fun w hw => (az (cJ (bo 5 rfl hw) (bM (hyp.mem_iff.1 (aZ hj)) _ (hU _))) (az (cJ (bo 5 rfl hw) (bM (hyp.mem_iff.1 (aZ hj)) _ (im _))) aY))) (fun ⟨A21, c21, B21, d21⟩ => ?_)
       refine aa ?_
       refine dg (bq 2) ?_
       refine iC (js := [0, 5]) (by kernel_rfl) rfl ?_
       refine dX (i := 0) rfl rfl ?_ ?_
       ·skip
        refine aq (aC 6 bz rfl rfl rfl) rfl rfl ?_
        refine aa ?_
        refine dg (bq 2) ?_
        refine cS (i := 5) rfl (by kernel_rfl) rfl ?_
        refine bY (vs := [_]) ([(⟨(ys.getD j bm).e, A21, c21, B21, d21⟩ : Le)] : List (Le)) bp Tryz.underlying22 aU rfl rfl rfl rfl rfl rfl (fun As23 => ?_)
        refine aa ?_
        refine dg (bq 3) ?_
        refine cS (i := 6) rfl (by kernel_rfl) rfl ?_
        refine cv (enc := dF) (sz := 7) [(⟨(ys.getD j bm).e, A21, c21, B21, d21⟩ : Le)] Tryz.underlying22 aU rfl rfl rfl (fun A c => (.s (.s (.s (.s (.s (.s (.z)))))))) (d5 0 Tryz.underlying22 rfl) (by simp only [List.length_cons, List.length_nil, Nat.zero_add]; omega) (by simp only [List.length_cons, List.length_nil, Nat.zero_add]; omega) rfl (fun A23 c23 => ?_)
        refine aa ?_
        refine cQ rfl ?_
        refine cS (i := 7) rfl (by kernel_rfl) rfl ?_
        refine aW bz rfl rfl rfl (.s (.s (.s (.s (.s (.s (.s (.z)))))))) rfl rfl rfl rfl ?_
        refine aa ?_
        refine cQ rfl ?_
        refine eQ (by kernel_rfl) ?_
        refine bj ?_
        refine fq ((out ++ [(⟨(ys.getD j bm).e, A21, c21, B21, d21⟩ : Le)], A23, c23)) ?_ (fun w h => by
  have h2 := (h.weak (.cons _ (.cons_cons _ (.cons_cons _ (List.Sublist.refl _)))) (fun s hs => hs)).intoE2
  show Hp _ _ (_ :: _ :: Ch.rall ((out ++ [_]).flatMap fm) :: _) _ _
  rw [List.flatMap_append, List.flatMap_singleton]
  exact h2)
        ·show (out ++ [_] : List Le).map (fun x : Le => x.e) = (List.map _ (pre ++ [_])).map (fun x : Le => x.e)
         rw [List.map_append, hI, List.map_append, List.map_append]; rfl
       refine dX (i := 5) rfl rfl ?_ ?_
       ·skip
        refine bY (vs := [_]) ([(⟨(ys.getD j bm).e, A21, c21, B21, d21⟩ : Le)] : List (Le)) bp Tryz.underlying22 aU rfl rfl rfl rfl rfl rfl (fun As25 => ?_)
        refine aa ?_
        refine dg (bq 3) ?_
        refine cS (i := 0) rfl (by kernel_rfl) rfl ?_
        refine aq (aC 7 bz rfl rfl rfl) rfl rfl ?_
        refine aa ?_
        refine dg (bq 3) ?_
        refine cS (i := 6) rfl (by kernel_rfl) rfl ?_
        refine cv (enc := dF) (sz := 7) [(⟨(ys.getD j bm).e, A21, c21, B21, d21⟩ : Le)] Tryz.underlying22 aU rfl rfl rfl (fun A c => (.s (.s (.s (.s (.s (.s (.z)))))))) (d5 0 Tryz.underlying22 rfl) (by simp only [List.length_cons, List.length_nil, Nat.zero_add]; omega) (by simp only [List.length_cons, List.length_nil, Nat.zero_add]; omega) rfl (fun A25 c25 => ?_)
        refine aa ?_
        refine cQ rfl ?_
        refine cS (i := 7) rfl (by kernel_rfl) rfl ?_
        refine aW bz rfl rfl rfl (.s (.s (.s (.s (.s (.s (.s (.z)))))))) rfl rfl rfl rfl ?_
        refine aa ?_
        refine cQ rfl ?_
        refine eQ (by kernel_rfl) ?_
        refine bj ?_
        refine fq ((out ++ [(⟨(ys.getD j bm).e, A21, c21, B21, d21⟩ : Le)], A25, c25)) ?_ (fun w h => by
  have h2 := (h.weak (.cons _ (.cons_cons _ (.cons_cons _ (List.Sublist.refl _)))) (fun s hs => hs)).intoE2
  show Hp _ _ (_ :: _ :: Ch.rall ((out ++ [_]).flatMap fm) :: _) _ _
  rw [List.flatMap_append, List.flatMap_singleton]
  exact h2)
        ·show (out ++ [_] : List Le).map (fun x : Le => x.e) = (List.map _ (pre ++ [_])).map (fun x : Le => x.e)
         rw [List.map_append, hI, List.map_append, List.map_append]; rfl
       exact gG
      exact gG
    ·skip
     obtain ⟨out, Ax, cx⟩ := g
     obtain ⟨xs, hfx, hI⟩ := hI
     dsimp only at hI ⊢
     subst hfx
     have hout : out.map (·.e) = (dz m put).map (·.e) := hI.trans (merge_put hmt hyp hys hck hnd)
     refine bj ?_
     refine aj ?_
     refine ap ?_
     refine ap ?_
     refine ae ?_
     refine aq (aC 3 bz rfl rfl rfl) rfl rfl ?_
     refine aq (bg Tryz.underlying22 rfl) rfl rfl ?_
     refine aq (dB rfl rfl) rfl rfl ?_
     refine ay (t := 85) rfl (fun h27_2 => ?_) (fun h27_2 => ?_)
     ·skip
      refine aa ?_
      refine aj ?_
      refine aA rfl ?_
      refine ap ?_
      refine ae ?_
      refine aq (bP rfl (fg)) rfl rfl ?_
      refine aW bw rfl rfl rfl (.s (.s (.s (.s (.z))))) rfl rfl rfl rfl ?_
      refine aq (ai rfl) rfl rfl ?_
      refine aa ?_
      refine aj ?_
      refine aN ?_
      refine ax ?_
      refine e_lvr ?_
      refine lv_take .z ?_
      refine iG (rs := [.cell 4 24, .tmp 5]) rfl (bQ 4 bw rfl rfl rfl rfl (dv rfl cG)) (fun w hw => ?_)
      have hA : (bx v l full bs ver put drop) = (3, []) := by rw [fE hgo hmm, if_pos (by rw [← eG hout]; omega)]
      have hA1 : (bx v l full bs ver put drop).1 = 3 := congrArg Prod.fst hA
      exact ⟨⟨([], none, 0), by rw [hA]⟩, by rw [hA1, ey (by decide)]; rfl, hw.base, ((hw.weak (List.nil_sublist _) (fun s hs => hs)).nilsl 34 7).rall0.toNews⟩
     ·skip
      refine aa ?_
      refine aj ?_
      refine aD rfl ?_
      refine aQ ?_
      refine aj ?_
      refine ap ?_
      refine ae ?_
      refine aq (aB fC rfl) rfl rfl ?_
      refine aq (aC 5 cX rfl rfl rfl) rfl rfl ?_
      refine aq (aC 3 bz rfl rfl rfl) rfl rfl ?_
      refine aq (bP rfl (bu_24_0_1 _ _ _ _)) rfl rfl ?_
      refine aW bw rfl rfl rfl (.s (.s (.s (.s (.z))))) rfl rfl rfl rfl ?_
      refine aq (ai rfl) rfl rfl ?_
      refine aa ?_
      refine aj ?_
      refine aN ?_
      refine e_lvr ?_
      refine lv_take .z ?_
      refine iG (rs := [.cell 4 24, .tmp 5]) rfl (bQ 4 bw rfl rfl rfl rfl (dv rfl cG)) (fun w hw => ?_)
      have hA : (bx v l full bs ver put drop) = (0, dz m put) := by rw [fE hgo hmm, if_neg (by rw [← eG hout]; omega)]
      have hA1 : (bx v l full bs ver put drop).1 = 0 := congrArg Prod.fst hA
      exact ⟨⟨(out, Ax, cx), by rw [hA]; exact hout⟩, by rw [hA1]; rfl, hw.base, (hw.weak (.cons _ (.cons_cons _ (.cons_cons _ (.cons _ (.cons _ (.cons _ (.cons _ .slnil))))))) (fun s hs => hs)).toNews⟩
    ·skip
     exact hI.elim
  ·skip
   refine ap ?_
   refine ap ?_
   refine ae ?_
   refine aq (aB eH rfl) rfl rfl ?_
   refine aq (aC 2 iu rfl rfl rfl) rfl rfl ?_
   refine bN (t := 36) rfl (fun h8_1 => ?_) (fun h8_1 => ?_)
   ·skip
    refine aq (bS rfl) rfl rfl ?_
    refine aa ?_
    refine aj ?_
    refine aD rfl ?_
    refine aQ ?_
    refine aj ?_
    refine cz (fun w h => (h.weak (.cons _ (.cons_cons _ (.cons_cons _ (.cons_cons _ .slnil)))) (fun s hs => hs)).nilsl 34 7) ?_
    exact J8 ⟨([], none, 0), by rw [h8_1]; rfl⟩ _ (by repeat (first | exact trivial | refine ⟨rfl, ?_⟩))
   ·skip
    refine aq (bS rfl) rfl rfl ?_
    refine aa ?_
    refine aj ?_
    refine aA rfl ?_
    refine ae ?_
    refine aq (aB bX rfl) rfl rfl ?_
    refine aq (aC 3 bz rfl rfl rfl) rfl rfl ?_
    refine dE rfl ent_126 rfl (c_Clone_en _ _ _ (by omega)) (fun w hw => (az (bo 0 rfl hw) aY)) (fun ⟨A26, c26⟩ => ?_)
    refine aq (ai rfl) rfl rfl ?_
    refine aa ?_
    refine aj ?_
    refine cz (fun w h => h.weak (.cons_cons _ (.cons _ (.cons_cons _ (.cons_cons _ (.cons_cons _ .slnil))))) (fun s hs => hs)) ?_
    exact J8 ⟨(l, A26, c26), by rw [h8_1]; rfl⟩ _ (by repeat (first | exact trivial | refine ⟨rfl, ?_⟩))
end Go.Proofs.YtnpdgmoeoidppaaGreat
