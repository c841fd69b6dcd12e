import Derived.Test.YtfmelbpgkbiooaaGreatIbS
import Derived.Test.YtfmelbpgkbiooaaGreatPfS
import Derived.OrdersIn
/- an index finds what the reference finds: the plain law -/
namespace Go.Proofs.YtfmelbpgkbiooaaGreat
open Go.RowKit Go.Shelf
set_option linter.unusedVariables false
set_option linter.unusedSimpArgs false

def lookE (es : List En) (key : Str) : Option En := es.find? fun e => decide (foldN e.host = key)
theorem hm_look {m : List (Str × Le)} {l : List Le} (h : HmOk m l) (key : Str) : (lkp m key).map (·.e) = lookE (l.map (·.e)) key := by
  rw [h key, lookE, List.find?_map]; rfl
/-- Hosts that may be, unlike one another. -/
structure HostsOk (es : List En) : Prop where
  ck : ∀ e ∈ es, nameCk e.host = 0
  dis : ∀ e ∈ es, ∀ f ∈ es, foldN e.host = foldN f.host → e = f
theorem look_some {es : List En} (h : HostsOk es) {e : En} (he : e ∈ es) : lookE es (foldN e.host) = some e := by
  cases hl : lookE es (foldN e.host) with
  | none =>
    have := List.find?_eq_none.1 hl e he
    simp at this
  | some f =>
    have h1 := List.mem_of_find?_eq_some hl
    have h2 := List.find?_some hl
    simp only [decide_eq_true_eq] at h2
    rw [h.dis f h1 e he h2]
theorem look_mem {es : List En} {key : Str} {e : En} (h : lookE es key = some e) : e ∈ es ∧ foldN e.host = key := by
  have h1 := List.mem_of_find?_eq_some h
  have h2 := List.find?_some h
  simp only [decide_eq_true_eq] at h2
  exact ⟨h1, h2⟩
theorem same2_iff {a b : Str} (ha : nameCk a = 0) (hb : nameCk b = 0) : same2 a b = true ↔ foldN a = foldN b := by
  simp [same2, ha, hb]
/-- A table that may be. -/
theorem tab_zero {v : Int} {l : List Le} (h : tabCk v l = 0) : (∀ x ∈ l, entCk x.e = 0) ∧ Rises l ∧ l.length ≤ 256 ∧ 0 ≤ v ∧ v ≤ 2147483647 := by
  unfold tabCk at h
  split at h
  · omega
  · split at h
    · omega
    · split at h
      · omega
      · rename_i h1 h2 h3
        refine ⟨entsCk_zero.1 (by omega), ?_, by omega, ?_, ?_⟩
        · exact Decidable.not_not.1 (fun q => h3 (.inl q))
        · by_cases q : 0 ≤ v
          · exact q
          · exact absurd (.inr (.inl (by omega))) h3
        · by_cases q : v ≤ 2147483647
          · exact q
          · exact absurd (.inr (.inr (by omega))) h3
theorem rises_far {l : List Le} (h : Rises l) (i : Nat) : ∀ d, i + d + 1 < l.length → cmpN (hst l i) (hst l (i + d + 1)) < 0
  | 0, hd => by
    have := h (i + 1) (by omega) hd
    rw [cmpN_anti (l.getD (i + 1 - 1) le0).e.host] at this
    show cmpN (l.getD i le0).e.host (l.getD (i + 1) le0).e.host < 0
    rw [Nat.add_sub_cancel] at this
    omega
  | d + 1, hd => by
    have ih := rises_far h i d (by omega)
    have := h (i + (d + 1) + 1) (by omega) hd
    rw [cmpN_anti (l.getD (i + (d + 1) + 1 - 1) le0).e.host] at this
    rw [Nat.add_sub_cancel] at this
    exact cmpN_trans ih (by show cmpN (l.getD (i + (d + 1)) le0).e.host (l.getD (i + (d + 1) + 1) le0).e.host < 0; omega)
theorem tab_hosts {v : Int} {l : List Le} (h : tabCk v l = 0) : HostsOk (l.map (·.e)) := by
  obtain ⟨h1, h2, _⟩ := tab_zero h
  have ck : ∀ e ∈ l.map (·.e), nameCk e.host = 0 := fun e he => by
    obtain ⟨x, hx, rfl⟩ := List.mem_map.1 he
    exact ck_host (h1 x hx)
  have at_ : ∀ i, i < l.length → l[i]? = some (l.getD i le0) := fun i hi => by rw [List.getD_eq_getElem?_getD, List.getElem?_eq_getElem hi]; rfl
  have key : ∀ i j, i < j → j < l.length → foldN (hst l i) ≠ foldN (hst l j) := fun i j hij hj e => by
    obtain ⟨d, rfl⟩ : ∃ d, j = i + d + 1 := ⟨j - i - 1, by omega⟩
    have h3 := rises_far h2 i d hj
    have c1 : nameCk (hst l i) = 0 := ck_host (h1 _ (mem_getD (by omega)))
    have c2 : nameCk (hst l (i + d + 1)) = 0 := ck_host (h1 _ (mem_getD hj))
    rw [(cmpN_zero c1 c2).2 e] at h3
    omega
  refine ⟨ck, fun e he f hf hef => ?_⟩
  obtain ⟨x, hx, rfl⟩ := List.mem_map.1 he
  obtain ⟨y, hy, rfl⟩ := List.mem_map.1 hf
  obtain ⟨i, hi, rfl⟩ := List.mem_iff_getElem.1 hx
  obtain ⟨j, hj, rfl⟩ := List.mem_iff_getElem.1 hy
  have gi : (l.getD i le0) = l[i] := by rw [List.getD_eq_getElem?_getD, List.getElem?_eq_getElem hi]; rfl
  have gj : (l.getD j le0) = l[j] := by rw [List.getD_eq_getElem?_getD, List.getElem?_eq_getElem hj]; rfl
  rcases Nat.lt_trichotomy i j with q | q | q
  · exact absurd (by rw [hst, hst, gi, gj]; exact hef) (key i j q hj)
  · subst q; rfl
  · exact absurd (by rw [hst, hst, gi, gj]; exact hef.symm) (key j i q hi)
end Go.Proofs.YtfmelbpgkbiooaaGreat

/- the first candidate that an index finds; its law -/
namespace Go.Proofs.YtfmelbpgkbiooaaGreat
open Go.RowKit Go.Shelf
set_option linter.unusedVariables false
set_option linter.unusedSimpArgs false

set_option maxRecDepth 100000 in
theorem c_index_Newbad (v : Int) (l : List Le) (A : Option Addr) (c : Nat) (hok : TbOk l) (hlen : l.length ≤ 1000000000) (h0 : tabCk v l ≠ 0) (H : Option Addr) (h k : Nat) : RC Tryz.prog 12 #[.agg (tbC v A l.length c).toArray, .slice H h k] [Ch.rd A 7 elC l, Ch.rall (l.flatMap elR)] (α := Unit) (fun _ => .tuple #[.pointer none, .int .i64 (tabCk v l)]) (fun _ => []) := by
 refine rc_of_W (args := [.agg (tbC v A l.length c).toArray, .slice H h k]) 142 Tryz.func12 rfl rfl rfl (fun w0 => ?_)
 refine w_seq ?_
 refine w_region ?_
 refine o_box rfl rfl rfl (fun b1 => ?_)
 refine o_y (y_assign rfl) rfl rfl ?_
 refine o_y (y_assign rfl) rfl rfl ?_
 refine wl_nil ?_
 refine e_seq ?_
 refine w_seq ?_
 refine w_seq ?_
 refine w_region ?_
 refine o_y (y_loadrs 0 ty_24 rfl rfl rfl rfl) rfl rfl ?_
 refine o_callq rfl ent_38 rfl (c_table_Check _ _ _ _ hok (by omega)) (fun w hw => (rd_cons (rd_S 0 rfl hw) (rd_cons (rd_S 1 rfl hw) rd_nil))) ?_
 refine o_y (y_assign rfl) rfl rfl ?_
 refine wl_nil ?_
 refine e_seq ?_
 refine w_seq ?_
 refine w_region ?_
 refine o_y (y_move rfl) rfl rfl ?_
 refine o_y (y_neq rfl rfl) rfl rfl ?_
 refine wl_at (t := 21) rfl h0 ?_
 refine wl_nil ?_
 refine e_seq ?_
 refine w_cond_t rfl ?_
 refine w_seq ?_
 refine w_region ?_
 refine o_y (y_move rfl) rfl rfl ?_
 refine o_y (y_assign rfl) rfl rfl ?_
 refine o_y (y_assign rfl) rfl rfl ?_
 refine wl_nil ?_
 refine e_seq ?_
 refine w_ret ?_
 refine e_seq_ret ?_
 refine e_ret (ts := [4, 5]) rfl rfl rfl (fun w hw => ?_)
 exact ⟨(), rfl, hw.base, (hw.weak (List.nil_sublist _) (fun s hs => hs)).toNews⟩

set_option maxRecDepth 100000 in
theorem c_ref18_Newbad (v : Int) (l : List Le) (A : Option Addr) (c : Nat) (hok : TbOk l) (hlen : l.length ≤ 1000000000) (h0 : tabCk v l ≠ 0) (H : Option Addr) (h k : Nat) : RC Tryz.prog 21 #[.agg (tbC v A l.length c).toArray, .slice H h k] [Ch.rd A 7 elC l, Ch.rall (l.flatMap elR)] (α := Unit) (fun _ => .tuple #[.pointer none, .int .i64 (tabCk v l)]) (fun _ => []) := by
 refine rc_of_W (args := [.agg (tbC v A l.length c).toArray, .slice H h k]) 83 Tryz.func21 rfl rfl rfl (fun w0 => ?_)
 refine w_seq ?_
 refine w_region ?_
 refine o_box rfl rfl rfl (fun b1 => ?_)
 refine o_y (y_assign rfl) rfl rfl ?_
 refine o_y (y_assign rfl) rfl rfl ?_
 refine wl_nil ?_
 refine e_seq ?_
 refine w_seq ?_
 refine w_region ?_
 refine o_y (y_loadrs 0 ty_24 rfl rfl rfl rfl) rfl rfl ?_
 refine o_callq rfl ent_39 rfl (c_ref17_Check _ _ _ _ hok (by omega)) (fun w hw => (rd_cons (rd_S 0 rfl hw) (rd_cons (rd_S 1 rfl hw) rd_nil))) ?_
 refine o_y (y_assign rfl) rfl rfl ?_
 refine wl_nil ?_
 refine e_seq ?_
 refine w_seq ?_
 refine w_seq ?_
 refine w_region ?_
 refine o_y (y_move rfl) rfl rfl ?_
 refine o_y (y_neq rfl rfl) rfl rfl ?_
 refine wl_at (t := 14) rfl h0 ?_
 refine wl_nil ?_
 refine e_seq ?_
 refine w_cond_t rfl ?_
 refine w_seq ?_
 refine w_region ?_
 refine o_y (y_move rfl) rfl rfl ?_
 refine o_y (y_assign rfl) rfl rfl ?_
 refine o_y (y_assign rfl) rfl rfl ?_
 refine wl_nil ?_
 refine e_seq ?_
 refine w_ret ?_
 refine e_seq_ret ?_
 refine e_ret (ts := [4, 5]) rfl rfl rfl (fun w hw => ?_)
 exact ⟨(), rfl, hw.base, (hw.weak (List.nil_sublist _) (fun s hs => hs)).toNews⟩

theorem dc_le {w : World} : Dc Tryz.prog w 47 (α := Le) (elC) (elR) (fun x => EnOk x.e) := fun H enc base sp hd fuel cs x h => by
  obtain ⟨xs, n, rfl, _, hcl, hxl, hf⟩ := DataW.trod_struct Tryz.underlying47 h
  have hcl2 : cs.length = 7 := hcl.trans (by kernel_rfl)
  obtain ⟨x0, c0, r0, o0⟩ := dc_field hxl hf 0 (ft := 36) (off := 0) (k := 1) (by kernel_rfl) (by kernel_rfl) (dc_str Tryz.underlying36)
  obtain ⟨x1, c1, r1, o1⟩ := dc_field hxl hf 1 (ft := 3) (off := 1) (k := 1) (by kernel_rfl) (by kernel_rfl) (dc_int Tryz.underlying3)
  obtain ⟨x2, c2, r2, o2⟩ := dc_field hxl hf 2 (ft := 9) (off := 2) (k := 1) (by kernel_rfl) (by kernel_rfl) (dc_str Tryz.underlying9)
  obtain ⟨⟨x3, A, c⟩, c3, r3, o3⟩ := dc_field hxl hf 3 (ft := 43) (off := 3) (k := 1) (by kernel_rfl) (by kernel_rfl) dc_ads
  obtain ⟨x4, c4, r4, o4⟩ := dc_field hxl hf 4 (ft := 36) (off := 4) (k := 1) (by kernel_rfl) (by kernel_rfl) (dc_str Tryz.underlying36)
  obtain ⟨⟨x5, B, d⟩, c5, r5, o5⟩ := dc_field hxl hf 5 (ft := 44) (off := 5) (k := 1) (by kernel_rfl) (by kernel_rfl) dc_ints
  obtain ⟨x6, c6, r6, o6⟩ := dc_field hxl hf 6 (ft := 45) (off := 6) (k := 1) (by kernel_rfl) (by kernel_rfl) (dc_int Tryz.underlying45)
  have hcs := cut0 (cutc c0 (cutc c1 (cutc c2 (cutc c3 (cutc c4 (cutc c5 (cutc c6 (cutn hcl2) rfl) rfl) rfl) rfl) rfl) rfl) rfl)
  exact ⟨⟨⟨x0, x1, x2, x3, x4, x5, x6⟩, A, c, B, d⟩, hcs, rd_cons (r3 _ List.mem_cons_self) (rd_cons (r5 _ List.mem_cons_self) nofun), o0, o1, o2, o3.2, o3.1, o4, o5.2, o5.1, o6⟩

theorem dc_ents {w : World} : Dc Tryz.prog w 22 (fun p : List Le × Option Addr × Nat => [.slice p.2.1 p.1.length p.2.2]) (fun p => Ch.rd p.2.1 7 elC p.1 :: p.1.flatMap elR) (fun p => p.1.length ≤ 9223372036854775807 ∧ ∀ x ∈ p.1, EnOk x.e) := dc_slice Tryz.underlying22 (by kernel_rfl) (by decide) enc_le dc_le

theorem dc_tb {w : World} : Dc Tryz.prog w 24 (α := Int × List Le × Option Addr × Nat) (fun q => tbC q.1 q.2.2.1 q.2.1.length q.2.2.2) (fun q => [Ch.rd q.2.2.1 7 elC q.2.1, Ch.rall (q.2.1.flatMap elR)]) (fun q => q.2.1.length ≤ 9223372036854775807 ∧ ∀ x ∈ q.2.1, EnOk x.e) := fun H enc base sp hd fuel cs x h => by
  obtain ⟨xs, n, rfl, _, hcl, hxl, hf⟩ := DataW.trod_struct Tryz.underlying24 h
  have hcl2 : cs.length = 2 := hcl.trans (by kernel_rfl)
  obtain ⟨x0, c0, r0, o0⟩ := dc_field hxl hf 0 (ft := 3) (off := 0) (k := 1) (by kernel_rfl) (by kernel_rfl) (dc_int Tryz.underlying3)
  obtain ⟨⟨x1, A, c⟩, c1, r1, o1⟩ := dc_field hxl hf 1 (ft := 22) (off := 1) (k := 1) (by kernel_rfl) (by kernel_rfl) dc_ents
  have hcs := cut0 (cutc c0 (cutc c1 (cutn hcl2) rfl) rfl)
  exact ⟨(x0, x1, A, c), hcs, rd_cons (r1 _ List.mem_cons_self) (rd_cons (rd_rall (fun s hs => r1 s (.tail _ hs))) nofun), o1⟩
end Go.Proofs.YtfmelbpgkbiooaaGreat

/- Regions with open order, inside rounds too, calls of yield in them; scopes; parts of slices. -/
namespace Go.Proofs.YtfmelbpgkbiooaaGreat
open Go.RowKit Go.Shelf
set_option linter.unusedVariables false
set_option linter.unusedSimpArgs false

/-! A scope through which nothing jumps. -/
section
variable {x : Cx} {l : Fr} {L S : List Ch} {Q : Exit → Act → World → Prop}
theorem pk_rd {x : Cx} {Bk : List Ch} {σ : Type} {It : σ → Prop} {Ij : Code → σ → Prop} {Lf : σ → List Ch} {S : List Ch} : PkOk (Qr x Bk It Ij Lf S) := fun _ _ _ _ _ h => h.elim
end

/-! Regions with open order. -/
def noDefer (ops : Array Oper) : Bool := ops.all fun o => match o.op with
  | .defer _ => false
  | _ => true
theorem noDefer_spec {ops : Array Oper} (h : noDefer ops = true) {j : Nat} {o : Oper} (ho : ops[j]? = some o) : ∀ c, o.op ≠ .defer c := fun c e => by
  have h1 := Array.all_eq_true'.1 h o (Array.mem_of_getElem? ho)
  rw [e] at h1
  cases h1
theorem wpOpIn_putIf {ro : Option Nat} {P : Program} {ops : Array Oper} {Q : Exit → Act → World → Prop} {C : World → Prop} {j : Nat} {oi oj : Oper} {v : Value} (hj : ops[j]? = some oj) (hap : oi.apart ops oj = true)
    (hsi : ∀ cs b, oi.op ≠ .select cs b) (hsj : ∀ cs b, oj.op ≠ .select cs b) (hdj : ∀ c, oj.op ≠ .defer c)
    (hQ : ∀ c a w, Q (.panic c) (a.put oi.dst v) w → Q (.panic c) a w) {K : Act → World → Prop} {a : Act} {w : World}
    (hy : YieldsIf P ops C oi v a) (h : wpOpIn (fw ro) 0 P ops Q j K (a.put oi.dst v) w) :
    wpOpIn (fw ro) 0 P ops Q j (fun a' w' => YieldsIf P ops C oi v a' ∧ K (a'.put oi.dst v) w') a w := by
  obtain ⟨h1, h2, h3⟩ := Oper.apart_spec hap
  have keep : ∀ (a : Act), YieldsIf P ops C oi v a → ∀ u, YieldsIf P ops C oi v (a.put oj.dst u) := fun a hy u =>
    hy.of_same (execOp_put oi hsi a oj.dst u h3) (wanted_put oi a oj.dst u h3)
  have keepD : ∀ d, YieldsIf P ops C oi v { a with defers := d :: a.defers } := fun d => hy.of_same rfl rfl
  unfold wpOpIn at *
  simp only [hj] at *
  rw [wanted_put oj a oi.dst v h1] at h
  split
  · rename_i hw
    simp only [hw, if_true] at h
    unfold Oper.wpIn at *
    refine ⟨fun _ _ => trivial, ?_⟩
    have h := h.2
    rw [Oper.semAt_eq _ _ _ hdj, execOp_put oj hsj a oi.dst v h1] at h
    rw [Oper.semAt_eq _ _ _ hdj]
    generalize (execOp a.eval oj).run P w = r at *
    cases r with
    | ok n w' =>
      cases n <;> simp only [Oper.uponIn] at h ⊢
      case value u => exact ⟨keep a hy u, by rw [← Act.put_comm a v u h2]; exact h⟩
      case skip => exact ⟨keep a hy _, by rw [← Act.put_comm a v undef h2]; exact h⟩
      case defer d =>
        refine ⟨keep _ (keepD d) _, ?_⟩
        rw [← Act.put_comm _ v undef h2, ← Act.put_defers]
        exact h
      case enter f args =>
        refine ⟨h.1, CallsIn.mono h.2 fun e w'' he => ?_⟩
        cases e with
        | returned u => exact ⟨keep a hy u, by rw [← Act.put_comm a v u h2]; exact he⟩
        | panicked c => exact hQ _ _ _ he
        | outgrown => exact he
      case row row args => exact ⟨h.1, RowsIn.mono h.2 fun u w'' he => ⟨keep a hy u, by rw [← Act.put_comm a v u h2]; exact he⟩⟩
      case round l f tmps assign body =>
        refine ⟨h.1, RoundIn.mono h.2 fun e w'' he => ?_⟩
        cases e with
        | returned u => exact ⟨keep a hy u, by rw [← Act.put_comm a v u h2]; exact he⟩
        | panicked c => exact hQ _ _ _ he
        | outgrown => exact he
    | halt x w' =>
      cases x <;> simp only [Oper.uponIn] at h ⊢
      case panic u => exact hQ _ _ _ h
  · rename_i hw
    simp only [hw] at h
    exact ⟨fun _ _ => trivial, keep a hy _, by rw [← Act.put_comm a v undef h2]; exact h.2⟩
theorem yieldsIf_wpOpIn {ro : Option Nat} {P : Program} {ops : Array Oper} {Q : Exit → Act → World → Prop} {C : World → Prop} {i : Nat} {o : Oper} {v : Value} {a : Act} (hi : ops[i]? = some o) (hd : ∀ c, o.op ≠ .defer c) (hy : YieldsIf P ops C o v a)
    {K : Act → World → Prop} {w : World} (hS : C w) (h : K (a.put o.dst v) w) : wpOpIn (fw ro) 0 P ops Q i K a w := by
  unfold Go.wpOpIn
  simp only [hi]
  rcases hy with ⟨hw, hv⟩ | ⟨hw, rfl⟩
  · simp only [hw, if_true, Oper.wpIn, Oper.semAt_eq _ _ _ hd, hv w hS, Oper.uponIn]; exact ⟨fun _ _ => trivial, h⟩
  · simp only [hw, Bool.false_eq_true, if_false]; exact ⟨fun _ _ => trivial, h⟩
def wpAnyV (ro : Option Nat) (P : Program) (ops : Array Oper) (Q : Exit → Act → World → Prop) (C : World → Prop) (m : Nat) : Nat → Array Bool → Act → World → Prop
  | 0, listed, a, _w => Region.ready .any ops listed = [] ∧ Q .normal a _w
  | fuel + 1, listed, a, w =>
    (Region.ready .any ops listed = [] → Q .normal a w) ∧
    ∀ i ∈ Region.ready .any ops listed, wpOpIn (fw ro) 0 P ops Q i (fun a' w' => (noTail m (listed.setIfInBounds i true) = true → C w') ∧ wpAnyV ro P ops Q C m fuel (listed.setIfInBounds i true) a' w') a w
theorem wpAny_of_V {ro : Option Nat} {P : Program} {ops : Array Oper} {Q : Exit → Act → World → Prop} {C : World → Prop} {m : Nat} : ∀ (fuel : Nat) (listed : Array Bool) (a : Act) (w : World), wpAnyV ro P ops Q C m fuel listed a w → wpAnyIn (fw ro) 0 P .any ops Q fuel listed a w
  | 0, _, _, _, h => h
  | fuel + 1, _, _, _, h => ⟨h.1, fun i hi => wpOpIn_mono (fun a' w' h' => wpAny_of_V fuel _ a' w' h'.2) (h.2 i hi)⟩
theorem wpAnyV_first {ro : Option Nat} {P : Program} {ops : Array Oper} {Q : Exit → Act → World → Prop} {C : World → Prop} {m i : Nat} {oi : Oper} {v : Value} (hi : ops[i]? = some oi) (hsel : ∀ (j : Nat) (o : Oper) cs b, ops[j]? = some o → o.op ≠ .select cs b) (hdef : ∀ (j : Nat) (o : Oper), ops[j]? = some o → ∀ c, o.op ≠ .defer c)
    (hQ : ∀ c a w, Q (.panic c) (a.put oi.dst v) w → Q (.panic c) a w) (hm : tailW2 ops m i = true) (him : i < m) :
    ∀ (fuel : Nat) (listed : Array Bool) (a : Act) (w : World), noTail m listed = true → ClosedL ops listed →
      (∀ j oj, ops[j]? = some oj → j ≠ i → listed.getD j true = false → (∀ e ∈ oj.after, Region.binds .any e = true → e.on ≠ i) → oi.apart ops oj = true) →
      i ∈ Region.ready .any ops listed → YieldsIf P ops C oi v a → C w →
      wpAnyV ro P ops Q C m fuel (listed.setIfInBounds i true) (a.put oi.dst v) w → wpAnyV ro P ops Q C m (fuel + 1) listed a w := by
  intro fuel
  induction fuel with
  | zero =>
    intro listed a w hnt hcl _ hr hy hS H
    refine ⟨fun h => (by rw [h] at hr; cases hr), fun j hj => ?_⟩
    by_cases hji : j = i
    · subst hji; exact yieldsIf_wpOpIn hi (hdef _ _ hi) hy hS ⟨fun _ => hS, H⟩
    · have := ready_mono hj hji
      rw [H.1] at this
      cases this
  | succ fuel ih =>
    intro listed a w hnt hcl hfree hr hy hS H
    refine ⟨fun h => (by rw [h] at hr; cases hr), fun j hj => ?_⟩
    by_cases hji : j = i
    · subst hji; exact yieldsIf_wpOpIn hi (hdef _ _ hi) hy hS ⟨fun _ => hS, H⟩
    · have h1 := H.2 j (ready_mono hj hji)
      obtain ⟨hjun, oj, hoj, hall⟩ := mem_ready.1 hj
      have hun : listed.getD i false = false := by
        have h0 := (mem_ready.1 hr).1
        rcases Nat.lt_or_ge i listed.size with h' | h'
        · simpa [h'] using h0
        · simp [Array.getElem?_eq_none h']
      have hnot : ∀ e ∈ oj.after, Region.binds .any e = true → e.on ≠ i := fun e he hb heq => by
        have h1 := hall e he hb
        rw [heq, hun] at h1
        cases h1
      have hjm : j < m := by
        rcases Nat.lt_or_ge j m with h | h
        · exact h
        · simp only [tailW2, List.all_eq_true, List.mem_range] at hm
          have h1 := hm j (Array.getElem?_eq_some_iff.1 hoj).1
          rw [Bool.or_eq_true] at h1
          rcases h1 with h1 | h1
          · have := Nat.le_of_ble_eq_true h1; omega
          · rw [waits_listed hcl _ j oj hoj hall h1] at hun; cases hun
      have h2 := wpOpIn_putIf hoj (hfree j oj hoj hji hjun hnot) (fun cs b => hsel i oi cs b hi) (fun cs b => hsel j oj cs b hoj) (hdef j oj hoj) hQ hy h1
      have hfree' : ∀ k ok, ops[k]? = some ok → k ≠ i → (listed.setIfInBounds j true).getD k true = false →
          (∀ e ∈ ok.after, Region.binds .any e = true → e.on ≠ i) → oi.apart ops ok = true := fun k ok hk hki hun' hno => by
        refine hfree k ok hk hki ?_ hno
        by_cases hjk : j = k
        · subst hjk; exact hjun
        · rw [getD_set_ne true hjk] at hun'; exact hun'
      have hC := noTail_set (noTail_set hnt him) hjm
      refine wpOpIn_mono (fun a' w' h3 => ⟨fun _ => h3.2.1 hC, ih (listed.setIfInBounds j true) a' w' (noTail_set hnt hjm) (closed_set hcl hoj hall) hfree' (ready_mono hr (Ne.symm hji)) h3.1 (h3.2.1 hC) ?_⟩) h2
      rw [Array.setIfInBounds_comm _ _ hji]
      exact h3.2.2
def WV (x : Cx) (C : World → Prop) (m : Nat) (ops : Array Oper) (fuel : Nat) (listed : Array Bool) (l : Fr) (L S : List Ch) (Q : Exit → Act → World → Prop) : Prop :=
  ∀ a w, Kn x.N x.ds l a → Hp x.ok0 x.w0 L S w → wpAnyV x.ro x.P ops Q C m fuel listed a w
def QnV (x : Cx) (C : World → Prop) (m : Nat) (ops : Array Oper) (fuel : Nat) (listed : Array Bool) (Q : Exit → Act → World → Prop) : Exit → Act → World → Prop := Exit.then (fun a w => (noTail m listed = true → C w) ∧ wpAnyV x.ro x.P ops Q C m fuel listed a w) Q
def WRV (x : Cx) (C : World → Prop) (m : Nat) (ops : Array Oper) (fuel : Nat) (listed : Array Bool) (js : List Nat) (l : Fr) (L S : List Ch) (Q : Exit → Act → World → Prop) : Prop :=
  ∀ i ∈ js, ∀ a w, Kn x.N x.ds l a → Hp x.ok0 x.w0 L S w → wpOpIn (fw x.ro) 0 x.P ops Q i (fun a' w' => (noTail m (listed.setIfInBounds i true) = true → C w') ∧ wpAnyV x.ro x.P ops Q C m fuel (listed.setIfInBounds i true) a' w') a w
section
variable {x : Cx} {C : World → Prop} {l : Fr} {L S : List Ch} {Q : Exit → Act → World → Prop} {ops : Array Oper} {fuel m : Nat} {listed : Array Bool}
theorem w_drawV {id : Nat} {ol : List Oper} (m : Nat) (hm : x.P.follows .mixedOrders = true) (h : WV x (Hp x.ok0 x.w0 L S) m ol.toArray ol.length (Array.replicate ol.length false) l L S Q) : W x l L S (.region id ol.toArray true) Q := fun a w ha hw => by
  refine wpIn_region_any hm (wpAny_of_V (C := Hp x.ok0 x.w0 L S) (m := m) _ _ _ _ ?_)
  have := h a { w with drawn := w.drawn + 1 } ha hw.drew
  simpa using this
theorem v_take {i d : Nat} {op : Op} {ty : TypeId} {pos : String} {af : Array Edge} {gd : Option (Nat × Bool)} {v : Value} {listed' : Array Bool} {L0 S0 : List Ch} (hi : ops[i]? = some ⟨some d, op, ty, pos, af, gd⟩) (hw : ∀ a, Kn x.N x.ds l a → Region.wanted ⟨some d, op, ty, pos, af, gd⟩ (yielded ops a.tmps) = true)
    (hy : Yv x l L0 S0 ⟨some d, op, ty, pos, af, gd⟩ v) (hC : ∀ w, Hp x.ok0 x.w0 L S w → C w) (hC0 : ∀ w, C w → Hp x.ok0 x.w0 L0 S0 w) (hN : Nat.blt d x.N = true) (hpk : PkOk Q)
    (hs : (Region.noSelect ops && noDefer ops && Region.free .any ops listed i && (Region.ready .any ops listed).contains i && tailW2 ops m i && Nat.blt i m && noTail m listed && closedB ops listed) = true) (hl : listed.setIfInBounds i true = listed')
    (k : WV x C m ops fuel listed' ((d, v) :: l) L S Q) : WV x C m ops (fuel + 1) listed l L S Q := fun a w ha hh => by
  simp only [Bool.and_eq_true] at hs
  obtain ⟨⟨⟨⟨⟨⟨⟨h1, h0⟩, h2⟩, h3⟩, h4⟩, h5⟩, h6⟩, h7⟩ := hs
  exact wpAnyV_first hi (Region.noSelect_spec h1) (fun _ _ ho => noDefer_spec h0 ho) (fun c a w h => hpk c a w _ _ h) h4 (Nat.le_of_ble_eq_true h5) fuel listed a w h6 (closed_of h7) (Region.free_spec hi h2) (by simpa using h3) (.inl ⟨hw a ha, fun w' hw' => hy a w' ha (hC0 w' hw')⟩) (hC w hh) (by rw [hl]; exact k _ w (ha.put (Nat.le_of_ble_eq_true hN) v) hh)
/-- .. one whose guard says no. -/
theorem v_skip {i d : Nat} {op : Op} {ty : TypeId} {pos : String} {af : Array Edge} {gd : Option (Nat × Bool)} {listed' : Array Bool} (hi : ops[i]? = some ⟨some d, op, ty, pos, af, gd⟩) (hw : ∀ a, Kn x.N x.ds l a → Region.wanted ⟨some d, op, ty, pos, af, gd⟩ (yielded ops a.tmps) = false)
    (hC : ∀ w, Hp x.ok0 x.w0 L S w → C w) (hN : Nat.blt d x.N = true) (hpk : PkOk Q)
    (hs : (Region.noSelect ops && noDefer ops && Region.free .any ops listed i && (Region.ready .any ops listed).contains i && tailW2 ops m i && Nat.blt i m && noTail m listed && closedB ops listed) = true) (hl : listed.setIfInBounds i true = listed')
    (k : WV x C m ops fuel listed' ((d, undef) :: l) L S Q) : WV x C m ops (fuel + 1) listed l L S Q := fun a w ha hh => by
  simp only [Bool.and_eq_true] at hs
  obtain ⟨⟨⟨⟨⟨⟨⟨h1, h0⟩, h2⟩, h3⟩, h4⟩, h5⟩, h6⟩, h7⟩ := hs
  exact wpAnyV_first hi (Region.noSelect_spec h1) (fun _ _ ho => noDefer_spec h0 ho) (fun c a w h => hpk c a w _ _ h) h4 (Nat.le_of_ble_eq_true h5) fuel listed a w h6 (closed_of h7) (Region.free_spec hi h2) (by simpa using h3) (.inr ⟨hw a ha, rfl⟩) (hC w hh) (by rw [hl]; exact k _ w (ha.put (Nat.le_of_ble_eq_true hN) undef) hh)
theorem ev_one {C : World → Prop} {l : Fr} {L S : List Ch} (hC : ∀ w, Hp x.ok0 x.w0 L S w → C w) (h : WV x C m ops fuel listed l L S Q) : E x l L S .normal (QnV x C m ops fuel listed Q) := fun a w ha hw => ⟨fun _ => hC w hw, h a w ha hw⟩
theorem ev_tail {C : World → Prop} {l : Fr} {L S : List Ch} (hi : noTail m listed = false) (h : WV x C m ops fuel listed l L S Q) : E x l L S .normal (QnV x C m ops fuel listed Q) := fun a w ha hw => ⟨fun h' => absurd (hi.symm.trans h') (by decide), h a w ha hw⟩
theorem v_many {js : List Nat} (hr : Region.ready .any ops listed = js) (hne : js.isEmpty = false) (h : WRV x C m ops fuel listed js l L S Q) : WV x C m ops (fuel + 1) listed l L S Q := fun a w ha hh =>
  ⟨fun h0 => by rw [hr] at h0; subst h0; simp at hne, fun j hj => h j (hr ▸ hj) a w ha hh⟩
theorem wrv_nil : WRV x C m ops fuel listed [] l L S Q := fun i hi => by cases hi
theorem wrv_cons {js : List Nat} {o : Oper} {i : Nat} {listed' : Array Bool} (hi : ops[i]? = some o) (hl : listed.setIfInBounds i true = listed')
    (h : WL x l L S ops [o] (QnV x C m ops fuel listed' Q)) (k : WRV x C m ops fuel listed js l L S Q) : WRV x C m ops fuel listed (i :: js) l L S Q := fun j hj => by
  rcases List.mem_cons.1 hj with rfl | hj
  · intro a w ha hh
    rw [hl]
    have h1 := h a w ha hh
    unfold wpListIn at h1
    unfold wpOpIn
    simp only [hi]
    split
    · rename_i hw
      rw [if_pos hw] at h1
      obtain ⟨_, h1⟩ := h1
      refine ⟨fun _ _ => trivial, ?_⟩
      generalize (Oper.semAt (fw x.ro).round a.eval o).run x.P w = r at *
      cases r with
      | halt hh w' => cases hh <;> exact h1
      | ok n w' =>
        cases n with
        | enter f args => exact ⟨h1.1, CallsIn.mono h1.2 fun e w'' hR => by cases e <;> exact hR⟩
        | row r args => exact ⟨h1.1, RowsIn.mono h1.2 fun _ _ hR => hR⟩
        | round l2 f tmps asg body => exact ⟨h1.1, RoundIn.mono h1.2 fun e w'' hR => by cases e <;> exact hR⟩
        | _ => exact h1
    · rename_i hw
      rw [if_neg hw] at h1
      exact ⟨fun _ _ => trivial, h1.2⟩
  · exact k j hj
theorem v_one {o : Oper} {i : Nat} {listed' : Array Bool} (hi : ops[i]? = some o) (hr : Region.ready .any ops listed = [i]) (hl : listed.setIfInBounds i true = listed')
    (h : WL x l L S ops [o] (QnV x C m ops fuel listed' Q)) : WV x C m ops (fuel + 1) listed l L S Q := v_many hr rfl (wrv_cons hi hl h wrv_nil)
theorem wv_as {t : Nat} {v : Value} (v' : Value) (h : look l t = some v) (e : v = v') (k : WV x C m ops fuel listed ((t, v') :: l) L S Q) : WV x C m ops fuel listed l L S Q := fun a w ha hw => k a w (ha.mono fun t' u h' => by
    simp only [look] at h'
    cases e2 : Nat.beq t t' with
    | true => rw [e2] at h'; cases h'; rw [← Nat.eq_of_beq_eq_true e2, h, e]
    | false => rw [e2] at h'; exact h') hw
theorem wv_at {t : Nat} {p : Prop} [Decidable p] (h : look l t = some (.bool (decide p))) (hp : p) (k : WV x C m ops fuel listed ((t, .bool true) :: l) L S Q) : WV x C m ops fuel listed l L S Q := wv_as (.bool true) h (by rw [decide_eq_true hp]) k
theorem wv_af {t : Nat} {p : Prop} [Decidable p] (h : look l t = some (.bool (decide p))) (hp : ¬ p) (k : WV x C m ops fuel listed ((t, .bool false) :: l) L S Q) : WV x C m ops fuel listed l L S Q := wv_as (.bool false) h (by rw [decide_eq_false hp]) k
theorem wv_splitb {t : Nat} {b : Bool} (h : look l t = some (.bool b)) (ht : b = true → WV x C m ops fuel listed ((t, .bool true) :: l) L S Q) (hf : b = false → WV x C m ops fuel listed ((t, .bool false) :: l) L S Q) : WV x C m ops fuel listed l L S Q := by
  cases hb : b with
  | true => exact wv_as (.bool true) h (by rw [hb]) (ht hb)
  | false => exact wv_as (.bool false) h (by rw [hb]) (hf hb)
theorem wv_splitp {t : Nat} {p : Prop} [Decidable p] (h : look l t = some (.bool (decide p))) (ht : p → WV x C m ops fuel listed ((t, .bool true) :: l) L S Q) (hf : ¬ p → WV x C m ops fuel listed ((t, .bool false) :: l) L S Q) : WV x C m ops fuel listed l L S Q := by
  by_cases hp : p
  · exact wv_at h hp (ht hp)
  · exact wv_af h hp (hf hp)
theorem v_done {fuel : Nat} (hr : Region.ready .any ops listed = []) (h : E x l L S .normal Q) : WV x C m ops fuel listed l L S Q := fun a w ha hh => by
  cases fuel with
  | zero => exact ⟨hr, h a w ha hh⟩
  | succ n => exact ⟨fun _ => h a w ha hh, by rw [hr]; simp⟩
end

/-! Parts of slices. -/
def sA (A : Option Addr) (m c sz : Nat) : Option Addr := if c = m then A else A.map (·.add (m * sz))
theorem fl_drop {α : Type} {enc : α → List Value} {sz : Nat} (hE : Enc enc sz) : ∀ (xs : List α) (m : Nat), fl enc (xs.drop m) = (fl enc xs).drop (m * sz)
  | [], m => by simp [fl]
  | x :: xs, 0 => by simp
  | x :: xs, m + 1 => by
    rw [List.drop_succ_cons, fl_drop hE xs m]
    have : fl enc (x :: xs) = enc x ++ fl enc xs := rfl
    have h2 : (enc x).drop ((m + 1) * sz) = [] := List.drop_of_length_le (by rw [hE.len x, Nat.succ_mul]; omega)
    rw [this, List.drop_append, hE.len x, h2, List.nil_append]
    congr 1
    rw [Nat.succ_mul]; omega
theorem fl_take {α : Type} {enc : α → List Value} {sz : Nat} (hE : Enc enc sz) : ∀ (xs : List α) (m : Nat), fl enc (xs.take m) = (fl enc xs).take (m * sz)
  | [], m => by simp [fl]
  | x :: xs, 0 => by simp [fl]
  | x :: xs, m + 1 => by
    have e1 : fl enc ((x :: xs).take (m + 1)) = enc x ++ fl enc (xs.take m) := rfl
    have e2 : fl enc (x :: xs) = enc x ++ fl enc xs := rfl
    have h2 : (enc x).take ((m + 1) * sz) = enc x := List.take_of_length_le (by rw [hE.len x, Nat.succ_mul]; omega)
    rw [e1, e2, fl_take hE xs m, List.take_append, hE.len x, h2]
    congr 2
    rw [Nat.succ_mul]; omega
theorem rsP_drop {α : Type} {enc : α → List Value} {sz : Nat} (hE : Enc enc sz) {A : Option Addr} {c m : Nat} {xs : List α} {w : World} (h : RsP A xs.length sz (fl enc xs) w) (hc : xs.length ≤ c) (hm : m ≤ xs.length) : RsP (sA A m c sz) (xs.drop m).length sz (fl enc (xs.drop m)) w := by
  refine ⟨fl_length hE.len _, fun u hu => h.one u ?_, ?_⟩
  · rw [fl_drop hE] at hu; exact List.mem_of_mem_drop hu
  · by_cases e : (xs.drop m).length = 0
    · exact .inl e
    · rw [List.length_drop] at e
      rcases h.at_ with h0 | ⟨b, off, rfl, hv⟩
      · omega
      · refine .inr ⟨b, off + m * sz, ?_, fun i hi => ?_⟩
        · rw [sA, if_neg (by omega)]
          show some (Addr.add _ _) = _
          unfold Addr.add; split
          · rename_i h0; rw [h0]; rfl
          · rfl
        · rw [fl_drop hE] at hi ⊢
          rw [List.length_drop] at hi
          rw [List.getElem?_drop, Nat.add_assoc]
          exact hv _ (by omega)
theorem rsP_take {α : Type} {enc : α → List Value} {sz : Nat} (hE : Enc enc sz) {A : Option Addr} {m : Nat} {xs : List α} {w : World} (h : RsP A xs.length sz (fl enc xs) w) (hm : m ≤ xs.length) : RsP A (xs.take m).length sz (fl enc (xs.take m)) w := by
  refine ⟨fl_length hE.len _, fun u hu => h.one u ?_, ?_⟩
  · rw [fl_take hE] at hu; exact List.mem_of_mem_take hu
  · rcases h.at_ with h0 | ⟨b, off, rfl, hv⟩
    · left; simp; omega
    · refine .inr ⟨b, off, rfl, fun i hi => ?_⟩
      rw [fl_take hE] at hi ⊢
      rw [List.length_take] at hi
      rw [List.getElem?_take, if_pos (by omega)]
      exact hv _ (by omega)
section
variable {x : Cx} {l : Fr} {L S : List Ch}
theorem rd_dropL {α : Type} {enc : α → List Value} {sz : Nat} (hE : Enc enc sz) {A : Option Addr} {c m : Nat} {e : TypeId} {xs : List α} {w : World} (i : Nat) (h : L[i]? = some (Ch.ls A c e sz enc xs)) (hm : m ≤ xs.length) (hw : Hp x.ok0 x.w0 L S w) : (Ch.rd (sA A m c sz) sz enc (xs.drop m)).P w ∧ ∀ b, (Ch.rd (sA A m c sz) sz enc (xs.drop m)).ok b → b < w.heap.size := by
  have h1 : SlP A xs.length c e sz (fl enc xs) w := hw.own _ (List.mem_of_getElem? h)
  have hc : xs.length ≤ c := by
    rcases h1.at_ with ⟨_, h2, h3⟩ | ⟨g, cur, fz, _, _, h2, _⟩
    · omega
    · exact h2
  refine ⟨rsP_drop hE h1.rs hc hm, fun b hb => ?_⟩
  refine (rd_slrs (hw.rdL (List.mem_of_getElem? h))).2 b ⟨?_, ?_⟩
  · have := hb.1; simp at this; omega
  · have := hb.2
    unfold sA at this
    split at this
    · exact this
    · cases A with
      | none => exact this
      | some a =>
        rw [← this]
        show some a.block = some (Addr.add a _).block
        unfold Addr.add; split <;> rfl
theorem rd_takeL {α : Type} {enc : α → List Value} {sz : Nat} (hE : Enc enc sz) {A : Option Addr} {c m : Nat} {e : TypeId} {xs : List α} {w : World} (i : Nat) (h : L[i]? = some (Ch.ls A c e sz enc xs)) (hm : m ≤ xs.length) (hw : Hp x.ok0 x.w0 L S w) : (Ch.rd A sz enc (xs.take m)).P w ∧ ∀ b, (Ch.rd A sz enc (xs.take m)).ok b → b < w.heap.size := by
  have h1 : SlP A xs.length c e sz (fl enc xs) w := hw.own _ (List.mem_of_getElem? h)
  refine ⟨rsP_take hE h1.rs hm, fun b hb => ?_⟩
  refine (rd_slrs (hw.rdL (List.mem_of_getElem? h))).2 b ⟨?_, hb.2⟩
  have := hb.1; simp at this; omega
variable {d : Nat} {ty : TypeId} {pos : String} {af : Array Edge} {gd : Option (Nat × Bool)}
theorem elem_of {P : Program} {t e : TypeId} (h : P.underlying t = some (.slice e)) : P.elem t = e := by simp [Program.elem, h]
theorem y_drop {α : Type} {y i1 : Operand} {A : Option Addr} {xs : List α} {c m sz bytes : Nat} {i : Int} {k1 : IntKind} {t e : TypeId} {agg : Bool} {z : Value} (h0 : x.P.underlying t = some (.slice e)) (he : TyI x.P e agg sz bytes z) (hy : ev l y = some (.slice A xs.length c)) (hi : ev l i1 = some (.int k1 i)) (hm : i = (m : Int)) (b1 : m ≤ xs.length) :
    Yv x l L S ⟨some d, .slice t y (some i1) none none, ty, pos, af, gd⟩ (.slice (sA A m c sz) (xs.drop m).length (c - m)) := fun a w ha hw => by
  have h1 : x.P.underlying t = some (.slice (x.P.elem t)) := by rw [elem_of h0]; exact h0
  have h2 := elem_of h0
  subst hm
  have e1 := run_slice_l (P := x.P) w t A xs.length c h1 k1 (m : Int) (by omega) (by omega)
  simp [execOp, ha.ev hy, ha.ev hi, run_sliceAt_slice (P := x.P) w t _ _ _ _ h1, e1, sA, sliced, Result.andThen, h2, he.size w]
theorem y_takes {α : Type} {y i1 : Operand} {A : Option Addr} {xs : List α} {c m sz bytes : Nat} {i : Int} {k1 : IntKind} {t e : TypeId} {agg : Bool} {z : Value} (h0 : x.P.underlying t = some (.slice e)) (he : TyI x.P e agg sz bytes z) (hy : ev l y = some (.slice A xs.length c)) (hi : ev l i1 = some (.int k1 i)) (hm : i = (m : Int)) (b1 : m ≤ xs.length) (hc : ∀ w, Hp x.ok0 x.w0 L S w → xs.length ≤ c) :
    Yv x l L S ⟨some d, .slice t y none (some i1) none, ty, pos, af, gd⟩ (.slice A (xs.take m).length c) := fun a w ha hw => by
  have h1 : x.P.underlying t = some (.slice (x.P.elem t)) := by rw [elem_of h0]; exact h0
  have h2 := elem_of h0
  subst hm
  have hc' := hc w hw
  have e1 := run_slice_h (P := x.P) w t A xs.length c h1 k1 (m : Int) (by omega) (by omega)
  have e2 : min m xs.length = m := by omega
  have e3 : A.map (fun a => a.add 0) = A := by cases A <;> rfl
  simp [execOp, ha.ev hy, ha.ev hi, run_sliceAt_slice (P := x.P) w t _ _ _ _ h1, e1, e2, e3, sliced, Result.andThen, h2, he.size w]
theorem cap_L {α : Type} {enc : α → List Value} {A : Option Addr} {c sz : Nat} {e : TypeId} {xs : List α} (i : Nat) (h : L[i]? = some (Ch.ls A c e sz enc xs)) : ∀ w, Hp x.ok0 x.w0 L S w → xs.length ≤ c := fun w hw => by
  have h1 : SlP A xs.length c e sz (fl enc xs) w := hw.own _ (List.mem_of_getElem? h)
  rcases h1.at_ with ⟨_, h2, h3⟩ | ⟨g, cur, fz, _, _, h2, _⟩
  · omega
  · exact h2
end
end Go.Proofs.YtfmelbpgkbiooaaGreat

/- Chains: plain laws. -/
namespace Go.Proofs.YtfmelbpgkbiooaaGreat
open Go.RowKit Go.Shelf
set_option linter.unusedVariables false
set_option linter.unusedSimpArgs false

section
variable {G : Str → Option Str}
end
/-- Neighbours. -/
def pairs : List Str → List (Str × Str)
  | a :: b :: r => (a, b) :: pairs (b :: r)
  | _ => []
end Go.Proofs.YtfmelbpgkbiooaaGreat

/- chains: followed; hops -/
namespace Go.Proofs.YtfmelbpgkbiooaaGreat
open Go.RowKit Go.Shelf
set_option linter.unusedVariables false
set_option linter.unusedSimpArgs false

end Go.Proofs.YtfmelbpgkbiooaaGreat
