import Derived.Test.YtfmelbpgkbiooaaGreatHbS
import Derived.Test.YtfmelbpgkbiooaaGreatLrS
/- an index made with what is held -/
namespace Go.Proofs.YtfmelbpgkbiooaaGreat
open Go.RowKit Go.Shelf
set_option linter.unusedVariables false
set_option linter.unusedSimpArgs false

theorem ent_49 : Enters Tryz.prog 49 := enters_of Tryz.func49 (by kernel_rfl) rfl
theorem ent_53 : Enters Tryz.prog 53 := enters_of Tryz.func53 (by kernel_rfl) rfl
theorem fa_42_0 : FA Tryz.prog 42 0 0 := fun b o w => by kernel_rfl
theorem fa_42_1 : FA Tryz.prog 42 1 1 := fun b o w => by kernel_rfl
theorem fa_91_2 : FA Tryz.prog 91 2 2 := fun b o w => by kernel_rfl
theorem ty_87 : TyI Tryz.prog 87 false 1 8 (.map none) := TyI.mk' (by kernel_rfl) (fun _ => by kernel_rfl)

theorem c_put_d (m : List (Str × Ad)) (r : Nat) (k : Str) (x : Ad) : UC Tryz.prog 53 #[.map (some r), .string (ba k), .agg (adC x).toArray] [] (Ch.mp r encN encA m) (α := Unit) (fun _ => .bool (!(lkp m k).isSome)) (fun _ => Ch.mp r encN encA (putF m k x)) := by
 refine uc_of_W (args := [.map (some r), .string (ba k), .agg (adC x).toArray]) 19 Tryz.func53 rfl rfl rfl (fun w0 => ?_)
 refine w_seq ?_
 refine w_region ?_
 refine o_box rfl rfl rfl (fun b1 => ?_)
 refine o_y (y_assign rfl) rfl rfl ?_
 refine wl_nil ?_
 refine e_seq ?_
 refine w_seq ?_
 refine w_seq ?_
 refine w_region ?_
 refine o_y (y_move rfl) rfl rfl ?_
 refine o_y (y_move rfl) rfl rfl ?_
 refine o_y (y_lookup2 Tryz.underlying87 (keyl_str Tryz.underlying36) ty_28 rfl rfl (fun w hw => hw.own _ (List.mem_of_getElem? (i := 1) rfl))) rfl rfl ?_
 refine wl_as (t := 12) (.tuple #[.agg (adC ((lkp m k).getD ad0)).toArray, .bool (lkp m k).isSome]) rfl (by cases lkp m k <;> rfl) ?_
 refine o_y (y_move rfl) rfl rfl ?_
 refine o_y (y_extract rfl rfl) rfl rfl ?_
 refine o_y (y_extract rfl rfl) rfl rfl ?_
 refine wl_splitb (t := 14) rfl (fun h1_5 => ?_) (fun h1_5 => ?_)
 refine o_alloc ty_28 rfl rfl (fun b2 => ?_)
 refine o_store ty_28 rfl rfl rfl .z rfl rfl rfl rfl ?_
 refine o_y (y_assign rfl) rfl rfl ?_
 refine wl_nil ?_
 refine e_seq ?_
 refine w_seq ?_
 refine w_region ?_
 refine o_y (y_move rfl) rfl rfl ?_
 refine wl_nil ?_
 refine e_seq ?_
 refine w_cond_t rfl ?_
 refine w_seq ?_
 refine w_region ?_
 refine o_y (y_assign rfl) rfl rfl ?_
 refine wl_nil ?_
 refine e_seq ?_
 refine w_ret ?_
 refine e_seq_ret ?_
 refine e_ret (ts := [6]) rfl rfl rfl (fun w hw => ?_)
 obtain ⟨h1, h2, h3⟩ := (hw.weak (.cons _ (.cons _ (.cons_cons _ .slnil))) (fun s hs => hs)).uc
 have hs : (lkp m k).isSome = true := h1_5
 rw [putF_old hs]
 exact ⟨(), by rw [hs]; rfl, h1, h2, h3⟩
 refine o_alloc ty_28 rfl rfl (fun b3 => ?_)
 refine o_store ty_28 rfl rfl rfl .z rfl rfl rfl rfl ?_
 refine o_y (y_assign rfl) rfl rfl ?_
 refine wl_nil ?_
 refine e_seq ?_
 refine w_seq ?_
 refine w_region ?_
 refine o_y (y_move rfl) rfl rfl ?_
 refine wl_nil ?_
 refine e_seq ?_
 refine w_cond_f rfl ?_
 refine w_skip ?_
 refine e_seq ?_
 refine w_seq ?_
 refine w_region ?_
 refine o_y (y_move rfl) rfl rfl ?_
 refine o_y (y_move rfl) rfl rfl ?_
 refine o_y (y_loadrs 1 ty_28 rfl rfl rfl rfl) rfl rfl ?_
 refine o_mapUpd (encK := encN) (encV := encA) (v := x) Tryz.underlying87 (keyl_str Tryz.underlying36) rfl rfl rfl (.s (.s (.z))) ?_
 refine wl_nil ?_
 refine e_seq ?_
 refine w_seq ?_
 refine w_region ?_
 refine o_y (y_assign rfl) rfl rfl ?_
 refine wl_nil ?_
 refine e_seq ?_
 refine w_ret ?_
 refine e_ret (ts := [6]) rfl rfl rfl (fun w hw => ?_)
 obtain ⟨h1, h2, h3⟩ := (hw.weak (.cons _ (.cons _ (.cons_cons _ .slnil))) (fun s hs => hs)).uc
 have hs : (lkp m k).isSome = false := h1_5
 rw [putF_new hs]
 exact ⟨(), by rw [hs]; rfl, h1, h2, h3⟩

def okH (es : List En) (pre : List Hd) (h : Hd) : Prop := nameCk h.host = 0 ∧ (∃ e, lookE es (foldN h.host) = some e ∧ e.kind = 2) ∧ addrCk h.ad = 0 ∧ (∀ p ∈ pre, foldN p.host ≠ foldN h.host) ∧ ∀ p ∈ pre, p.ad ≠ h.ad
/-- What may be held. -/
def HeldOk (es : List En) (hs : List Hd) : Prop := ∀ i, i < hs.length → okH es (hs.take i) (hs.getD i hd0)
def DmOk (m : List (Str × Ad)) (hs : List Hd) : Prop := ∀ key, lkp m key = (hs.find? fun h => decide (foldN h.host = key)).map (·.ad)
def AmOk0 (m : List (Ad × Le)) (hm : List (Str × Le)) (hs : List Hd) : Prop := ∀ a, lkp m a = (hs.find? fun h => decide (h.ad = a)).bind fun h => lkp hm (foldN h.host)
structure IxOk2 (l : List Le) (hs : List Hd) (x : Ixd) : Prop where
  ix : IxOk l x
  dm : DmOk x.dm hs
  am : ∀ a, lkp x.am a = ((hs.find? fun h => decide (h.ad = a)).bind fun h => lkp x.hm (foldN h.host)).or (x.l.find? fun y => decide (a ∈ y.e.addrs))
theorem hm_some {m : List (Str × Le)} {lc : List Le} (h : HmOk m lc) {key : Str} (hs : (lkp m key).isSome = true) : (lkp m key).getD le0 ∈ lc ∧ foldN ((lkp m key).getD le0).e.host = key := by
  cases hl : lkp m key with
  | none => rw [hl] at hs; cases hs
  | some y =>
    rw [h key] at hl
    exact ⟨List.mem_of_find?_eq_some hl, by have := List.find?_some hl; simpa using this⟩
theorem TbOk.mem' {l : List Le} (h : TbOk l) {z : Le} (hz : z ∈ l) : EnB z.e := by
  obtain ⟨h1, h2⟩ := h z hz
  have h3 := light_le h2
  exact ⟨h1.lo, by omega, by omega, h1.2.1, by omega, by omega⟩
theorem es_bnd {l lc : List Le} (he : lc.map (·.e) = l.map (·.e)) (hok : TbOk l) {y : Le} (hy : y ∈ lc) : EnB y.e := by
  have : y.e ∈ l.map (·.e) := by rw [← he]; exact List.mem_map.2 ⟨y, hy, rfl⟩
  obtain ⟨z, hz, e⟩ := List.mem_map.1 this
  exact (hok.mem' hz).eq e.symm
theorem lk_E {m : List (Str × Le)} {l lc : List Le} (h : HmOk m lc) (he : lc.map (·.e) = l.map (·.e)) (key : Str) : (lkp m key).map (·.e) = lookE (l.map (·.e)) key := by rw [← he]; exact hm_look h key
theorem lk_some {m : List (Str × Le)} {l lc : List Le} (h : HmOk m lc) (he : lc.map (·.e) = l.map (·.e)) {key : Str} (hs : (lkp m key).isSome = true) : lookE (l.map (·.e)) key = some ((lkp m key).getD le0).e := by
  rw [← lk_E h he]
  cases hl : lkp m key with
  | none => rw [hl] at hs; cases hs
  | some y => rfl
theorem dm_nil : DmOk [] [] := fun _ => rfl
theorem dm_put {m : List (Str × Ad)} {pre : List Hd} (h : DmOk m pre) (x : Hd) : DmOk (putF m (foldN x.host) x.ad) (pre ++ [x]) := fun key => by
  rw [lkp_putF, List.find?_append, h key]
  have e : ∀ o p : Option Hd, (o.or p).map (·.ad) = (o.map (·.ad)).or (p.map (·.ad)) := fun o p => by cases o <;> rfl
  rw [e]; congr 1
  by_cases e2 : key = foldN x.host
  · subst e2; simp
  · rw [if_neg e2, List.find?_cons_of_neg (by simpa using fun q => e2 q.symm)]; rfl
theorem am_nil (hm : List (Str × Le)) : AmOk0 [] hm [] := fun _ => rfl
theorem am_put {m : List (Ad × Le)} {hm : List (Str × Le)} {pre : List Hd} (h : AmOk0 m hm pre) (hp : ∀ p ∈ pre, (lkp hm (foldN p.host)).isSome = true) (x : Hd) (hx : (lkp hm (foldN x.host)).isSome = true) : AmOk0 (putF m x.ad ((lkp hm (foldN x.host)).getD le0)) hm (pre ++ [x]) := fun a => by
  rw [lkp_putF, List.find?_append, h a]
  cases hf : pre.find? fun h => decide (h.ad = a) with
  | some z =>
    have := hp z (List.mem_of_find?_eq_some hf)
    show (lkp hm (foldN z.host)).or _ = lkp hm (foldN z.host)
    cases hz : lkp hm (foldN z.host) with
    | none => rw [hz] at this; cases this
    | some y => rfl
  | none =>
    by_cases e2 : a = x.ad
    · rw [if_pos e2, List.find?_cons_of_pos (by simpa using e2.symm)]
      have h9 : some ((lkp hm (foldN x.host)).getD le0) = lkp hm (foldN x.host) := by
        cases hz : lkp hm (foldN x.host) with
        | none => rw [hz] at hx; cases hx
        | some y => rfl
      exact h9
    · rw [if_neg e2, List.find?_cons_of_neg (by simpa using fun q => e2 q.symm)]; rfl
theorem held_step {es : List En} {hs : List Hd} {k : Nat} (h : ∀ i, i < k → okH es (hs.take i) (hs.getD i hd0)) (hk : okH es (hs.take k) (hs.getD k hd0)) : ∀ i, i < k + 1 → okH es (hs.take i) (hs.getD i hd0) := all_succ h hk
theorem held_pre {es : List En} {hs : List Hd} {k : Nat} (h : ∀ i, i < k → okH es (hs.take i) (hs.getD i hd0)) (hk : k ≤ hs.length) : ∀ p ∈ hs.take k, ∃ e, lookE es (foldN p.host) = some e ∧ e.kind = 2 := fun p hp => by
  obtain ⟨i, hi, rfl⟩ := List.mem_iff_getElem.1 hp
  have hi2 : i < k := by simp at hi; omega
  have := (h i hi2).2.1
  rw [List.getD_eq_getElem?_getD, List.getElem?_eq_getElem (by omega)] at this
  rw [List.getElem_take]; exact this
theorem dm_no {m : List (Str × Ad)} {pre : List Hd} (h : DmOk m pre) {key : Str} (hn : (lkp m key).isSome = false) : ∀ p ∈ pre, foldN p.host ≠ key := fun p hp e => by
  rw [h key] at hn
  cases hf : pre.find? fun h => decide (foldN h.host = key) with
  | some z => rw [hf] at hn; cases hn
  | none => have := List.find?_eq_none.1 hf p hp; simp [e] at this
theorem dm_yes {m : List (Str × Ad)} {pre : List Hd} (h : DmOk m pre) {key : Str} (hn : (lkp m key).isSome = true) : ∃ p ∈ pre, foldN p.host = key := by
  rw [h key] at hn
  cases hf : pre.find? fun h => decide (foldN h.host = key) with
  | none => rw [hf] at hn; cases hn
  | some z => exact ⟨z, List.mem_of_find?_eq_some hf, by have := List.find?_some hf; simpa using this⟩
theorem am_no {m : List (Ad × Le)} {hm : List (Str × Le)} {pre : List Hd} (h : AmOk0 m hm pre) (hp : ∀ p ∈ pre, (lkp hm (foldN p.host)).isSome = true) {a : Ad} (hn : (lkp m a).isSome = false) : ∀ p ∈ pre, p.ad ≠ a := fun p hpp e => by
  rw [h a] at hn
  cases hf : pre.find? fun h => decide (h.ad = a) with
  | some z => rw [hf] at hn; have := hp z (List.mem_of_find?_eq_some hf); rw [Option.bind_some, this] at hn; cases hn
  | none => have := List.find?_eq_none.1 hf p hpp; simp [e] at this
theorem am_yes {m : List (Ad × Le)} {hm : List (Str × Le)} {pre : List Hd} (h : AmOk0 m hm pre) {a : Ad} (hn : (lkp m a).isSome = true) : ∃ p ∈ pre, p.ad = a := by
  rw [h a] at hn
  cases hf : pre.find? fun h => decide (h.ad = a) with
  | none => rw [hf] at hn; cases hn
  | some z => exact ⟨z, List.mem_of_find?_eq_some hf, by have := List.find?_some hf; simpa using this⟩
theorem adp_step {m : List (Ad × Le)} {am : List (Ad × Le)} {y : Le} {l : List Ad} {j : Nat} (h : ∀ a, lkp m a = (lkp am a).or (if a ∈ l.take j then some y else none)) (hj : j < l.length) : ∀ a, lkp (putF m (l.getD j ad0) y) a = (lkp am a).or (if a ∈ l.take (j + 1) then some y else none) := fun a => by
  rw [lkp_putF, h a, take_getD l ad0 j hj]
  cases lkp am a with
  | some z => rfl
  | none =>
    by_cases e1 : a ∈ l.take j
    · rw [if_pos e1, if_pos (List.mem_append_left _ e1)]; rfl
    · rw [if_neg e1]
      by_cases e2 : a = l.getD j ad0
      · rw [if_pos e2, if_pos (by rw [e2]; simp)]; rfl
      · rw [if_neg e2, if_neg (fun q => (List.mem_append.1 q).elim e1 (fun q => e2 (List.mem_singleton.1 q)))]; rfl
theorem en_step {m am am0 : List (Ad × Le)} {l : List Le} {k : Nat} (h : ∀ a, lkp am a = (lkp am0 a).or ((l.take k).find? fun y => decide (a ∈ y.e.addrs))) (hk : k < l.length) (h2 : ∀ a, lkp m a = (lkp am a).or (if a ∈ (l.getD k le0).e.addrs.take (l.getD k le0).e.addrs.length then some (l.getD k le0) else none)) : ∀ a, lkp m a = (lkp am0 a).or ((l.take (k + 1)).find? fun y => decide (a ∈ y.e.addrs)) := fun a => by
  rw [h2 a, h a, take_getD l le0 k hk, List.find?_append, Option.or_assoc, List.take_length]
  congr 2
  by_cases e : a ∈ (l.getD k le0).e.addrs
  · rw [if_pos e, List.find?_cons_of_pos (by simpa using e)]
  · rw [if_neg e, List.find?_cons_of_neg (by simpa using e)]; rfl
/-- What an index holds, all of it. -/
def ixR3 (x : Ixd) : List Ch := Ch.row x.b (ixC x) 91 :: Ch.mp x.rh encN encE x.hm :: Ch.mp x.rd encN encA x.dm :: Ch.mp x.ra encA encE x.am :: Ch.rd x.A 7 elC x.l :: (le0 :: x.l).flatMap elR
theorem Hp.ixOpen3 {ok0 : Nat → Prop} {w0 w : World} {x : Ixd} {L S : List Ch} (h : Hp ok0 w0 (Ch.rall (ixR x) :: L) S w) : Hp ok0 w0 (Ch.rall (ixR3 x) :: L) S w :=
  h.turn (c' := Ch.rall (ixR3 x)) .z (fun hp d hd => by
    have h6 : (Ch.rall (x.l.flatMap elR)).P w := hp _ (.tail _ (.tail _ (.tail _ (.tail _ (.tail _ (.head _))))))
    simp only [ixR3, List.mem_cons] at hd
    rcases hd with rfl | rfl | rfl | rfl | rfl | hd
    · exact hp _ (.head _)
    · exact hp _ (.tail _ (.tail _ (.head _)))
    · exact hp _ (.tail _ (.tail _ (.tail _ (.head _))))
    · exact hp _ (.tail _ (.tail _ (.tail _ (.tail _ (.head _)))))
    · exact hp _ (.tail _ (.head _))
    rw [List.flatMap_cons] at hd
    rcases List.mem_append.1 hd with hd | hd
    · exact (elR0 d hd w).1
    · exact h6 d hd) (fun b hb => by
    obtain ⟨d, hd, hdb⟩ := hb
    simp only [ixR3, List.mem_cons] at hd
    rcases hd with rfl | rfl | rfl | rfl | rfl | hd
    · exact ⟨_, .head _, hdb⟩
    · exact ⟨_, .tail _ (.tail _ (.head _)), hdb⟩
    · exact ⟨_, .tail _ (.tail _ (.tail _ (.head _))), hdb⟩
    · exact ⟨_, .tail _ (.tail _ (.tail _ (.tail _ (.head _)))), hdb⟩
    · exact ⟨_, .tail _ (.head _), hdb⟩
    rw [List.flatMap_cons] at hd
    rcases List.mem_append.1 hd with hd | hd
    · simp only [elR, List.mem_cons, List.not_mem_nil, or_false] at hd
      rcases hd with rfl | rfl <;> exact absurd hdb.1 (by simp [le0, en0])
    · exact ⟨Ch.rall (x.l.flatMap elR), .tail _ (.tail _ (.tail _ (.tail _ (.tail _ (.head _))))), d, hd, hdb⟩)
def ixV : Option Ixd → Value
  | some x => .tuple #[.pointer (some ⟨x.b, 0, none⟩), .int .i64 0]
  | none => .tuple #[.pointer none, .int .i64 2]
def ixD : Option Ixd → List Ch
  | some x => ixR3 x
  | none => []

set_option maxRecDepth 100000 in
set_option maxHeartbeats 2000000 in
theorem c_index_NewH (v : Int) (l : List Le) (A : Option Addr) (c : Nat) (Q : Option Addr) (hs : List Hd) (qc : Nat) (hok : TbOk l) (hlen : l.length ≤ 1000000000) (h0 : tabCk v l = 0) (hhl : hs.length ≤ 1000000) (hhh : ∀ h ∈ hs, h.host.length ≤ 1000 ∧ 0 ≤ h.ad.lo) : RC Tryz.prog 12 #[.agg (tbC v A l.length c).toArray, .slice Q hs.length qc] [Ch.rd A 7 elC l, Ch.rall (l.flatMap elR), Ch.rd Q 4 hdC hs] (α := {o : Option Ixd // (o = none → ¬ HeldOk (l.map (·.e)) hs) ∧ ∀ x, o = some x → HeldOk (l.map (·.e)) hs ∧ IxOk2 l hs x}) (fun o => ixV o.1) (fun o => [Ch.rall (ixD o.1)]) := by
 refine rc_of_W (args := [.agg (tbC v A l.length c).toArray, .slice Q hs.length qc]) 142 Tryz.func12 rfl rfl rfl (fun w0 => ?_)
 refine w_seq ?_
 refine w_region ?_
 refine o_box rfl rfl rfl (fun b1 => ?_)
 refine o_y (y_assign rfl) rfl rfl ?_
 refine o_y (y_assign rfl) rfl rfl ?_
 refine wl_nil ?_
 refine e_seq ?_
 refine w_seq ?_
 refine w_seq ?_
 refine w_region ?_
 refine o_y (y_loadrs 0 ty_24 rfl rfl rfl rfl) rfl rfl ?_
 refine o_callq rfl ent_38 rfl (c_table_Check _ _ _ _ hok (by omega)) (fun w hw => (rd_cons (rd_S 0 rfl hw) (rd_cons (rd_S 1 rfl hw) rd_nil))) ?_
 refine o_y (y_assign rfl) rfl rfl ?_
 refine wl_nil ?_
 refine e_seq ?_
 refine w_seq ?_
 refine w_region ?_
 refine o_y (y_move rfl) rfl rfl ?_
 refine o_y (y_neq rfl rfl) rfl rfl ?_
 refine wl_af (t := 21) rfl (by omega) ?_
 refine wl_nil ?_
 refine e_seq ?_
 refine w_cond_f rfl ?_
 refine w_skip ?_
 refine e_seq ?_
 refine w_seq ?_
 refine w_region ?_
 refine o_makeMap encN encE rfl (fun r1 => ?_)
 refine o_makeMap encN encA rfl (fun r2 => ?_)
 refine o_makeMap encA encE rfl (fun r3 => ?_)
 refine o_y (y_build rfl (bu_91_1_2_3 _ _ _)) rfl rfl ?_
 refine o_box rfl rfl rfl (fun b5 => ?_)
 refine o_y (y_assign rfl) rfl rfl ?_
 refine wl_nil ?_
 refine e_seq ?_
 refine w_seq ?_
 refine w_seq ?_
 refine w_region ?_
 refine o_y (y_field fa_24_1 rfl) rfl rfl ?_
 refine o_y (y_loadr 4 ty_22 rfl rfl rfl) rfl rfl ?_
 refine o_y (y_lenl Tryz.underlying22 rfl) rfl rfl ?_
 refine o_y (y_move rfl) rfl rfl ?_
 refine wl_nil ?_
 refine e_seq ?_
 refine w_block ?_
 refine w_heap (fun w h => h.nilsl 47 7) ?_
 refine w_heap (fun w h => h.rall0) ?_
 refine w_loopL (σ := Nat × List Le × Option Addr × Nat × List (Str × Le)) [9, 31, 32, 33, 34, 35, 36, 37, 38, 39, 40, 41, 42, 43, 44, 45, 46, 47, 48, 49, 50, 51, 52, 53, 54, 55] (fun q => q.1 ≤ l.length ∧ q.2.1.map (·.e) = (l.take q.1).map (·.e) ∧ HmOk q.2.2.2.2 q.2.1) (fun q => l.length - q.1) (fun q => [(31, .int .i64 q.1)]) (fun q => [Ch.rall (q.2.1.flatMap elR), Ch.ls q.2.2.1 q.2.2.2.1 47 7 elC q.2.1, Ch.row b5 [.slice q.2.2.1 q.2.1.length q.2.2.2.1, .map (some r1), .map (some r2), .map (some r3)] 91, Ch.mp r3 encA encE [], Ch.mp r2 encN encA [], Ch.mp r1 encN encE q.2.2.2.2]) ((0, [], none, 0, [])) ?_ ⟨rfl, trivial⟩ rfl (fun q hI => ?_)
 ·exact ⟨Nat.zero_le _, rfl, hm_nil⟩
 obtain ⟨k, lc, Ax, cx, hm⟩ := q
 dsimp only at hI ⊢
 refine w_seq ?_
 refine w_region ?_
 refine o_y (y_lss rfl rfl) rfl rfl ?_
 refine wl_splitp (t := 32) rfl (fun h6_0 => ?_) (fun h6_0 => ?_)
 ·skip
  have hk : k < l.length := by omega
  have hb9 := hok.at hk
  have hlc := take_len_eq hI.2.1
  refine wl_nil ?_
  refine e_seq ?_
  refine w_seq ?_
  refine w_cond_t rfl ?_
  refine w_skip ?_
  refine e_seq ?_
  refine w_seq ?_
  refine w_block ?_
  refine w_seq ?_
  refine w_region ?_
  refine o_y (y_ixm  Tryz.underlying22 ty_47 rfl rfl (rs_S 0 rfl) rfl (by omega)) rfl rfl ?_
  refine o_y (y_ldsm0 enc_le le0 ty_47 rfl (rs_S 0 rfl) (by omega) rfl rfl rfl) rfl rfl ?_
  refine o_alloc ty_47 rfl rfl (fun b6 => ?_)
  refine o_store ty_47 rfl rfl rfl .z rfl rfl rfl rfl ?_
  refine wl_nil ?_
  refine e_seq ?_
  refine w_seq ?_
  refine w_region ?_
  refine o_y (y_loadrs 0 ty_47 rfl rfl rfl rfl) rfl rfl ?_
  refine o_callr2 rfl ent_46 rfl (c_entry_Copy _ _ _ _ _ (by have := hb9.la; omega) (by have := hb9.lp; omega)) (fun w hw => (rd_cons (rd_all (rd_S 1 rfl hw) (mem_flatR (mem_getD (by omega)) _ (elRA _))) (rd_cons (rd_all (rd_S 1 rfl hw) (mem_flatR (mem_getD (by omega)) _ (elRB _))) rd_nil))) (fun ⟨A6, c6, B6, d6⟩ => ?_)
  refine o_store ty_47 rfl rfl rfl (.s (.s (.z))) rfl rfl rfl rfl ?_
  refine wl_nil ?_
  refine e_seq ?_
  refine w_seq ?_
  refine w_drawV 7 mixed ?_
  refine v_take (i := 1) rfl wanted_none (y_move rfl) (fun w h => h) (fun w h => h) rfl (pk_seq (pk_blk (pk_seq (pk_loop (pk_blk (pk_seq pk_fn)))))) (by kernel_rfl) rfl ?_
  refine v_take (i := 2) rfl wanted_none (y_nilCheck rfl) (fun w h => h) (fun w h => h) rfl (pk_seq (pk_blk (pk_seq (pk_loop (pk_blk (pk_seq pk_fn)))))) (by kernel_rfl) rfl ?_
  refine v_take (i := 3) rfl wanted_none (y_field fa_91_0 rfl) (fun w h => h) (fun w h => h) rfl (pk_seq (pk_blk (pk_seq (pk_loop (pk_blk (pk_seq pk_fn)))))) (by kernel_rfl) rfl ?_
  refine v_take (i := 4) rfl wanted_none (y_loadr 5 ty_22 rfl rfl rfl) (fun w h => h) (fun w h => h) rfl (pk_seq (pk_blk (pk_seq (pk_loop (pk_blk (pk_seq pk_fn)))))) (by kernel_rfl) rfl ?_
  refine v_take (i := 5) rfl wanted_none (y_loadrs 2 ty_47 rfl rfl rfl rfl) (fun w h => h) (fun w h => h) rfl (pk_seq (pk_blk (pk_seq (pk_loop (pk_blk (pk_seq pk_fn)))))) (by kernel_rfl) rfl ?_
  refine v_many (js := [0, 6]) (by kernel_rfl) rfl ?_
  refine wrv_cons (i := 0) rfl rfl ?_ ?_
  ·skip
   refine o_y (y_move rfl) rfl rfl ?_
   refine wl_nil ?_
   refine ev_one (fun w h => h) ?_
   refine v_one (i := 6) rfl (by kernel_rfl) rfl ?_
   refine o_bsl (vs := [_]) ([(⟨(l.getD k le0).e, A6, c6, B6, d6⟩ : Le)] : List (Le)) enc_le Tryz.underlying22 ty_47 rfl rfl rfl rfl rfl rfl (fun As8 => ?_)
   refine wl_nil ?_
   refine ev_one (fun w h => h.weak (.cons _ (List.Sublist.refl _)) (fun s hs => hs)) ?_
   refine v_one (i := 7) rfl (by kernel_rfl) rfl ?_
   refine o_appm (enc := elC) (sz := 7) [(⟨(l.getD k le0).e, A6, c6, B6, d6⟩ : Le)] Tryz.underlying22 ty_47 rfl rfl rfl (fun A c => (.s (.s (.s (.s (.s (.z))))))) (src_L 0 Tryz.underlying22 rfl) (by simp only [List.length_cons, List.length_nil, Nat.zero_add]; omega) (by simp only [List.length_cons, List.length_nil, Nat.zero_add]; omega) rfl (fun A8 c8 => ?_)
   refine wl_nil ?_
   refine ev_tail rfl ?_
   refine v_one (i := 8) rfl (by kernel_rfl) rfl ?_
   refine o_y (y_nilCheck rfl) rfl rfl ?_
   refine wl_nil ?_
   refine ev_tail rfl ?_
   refine v_one (i := 9) rfl (by kernel_rfl) rfl ?_
   refine o_y (y_field fa_91_0 rfl) rfl rfl ?_
   refine wl_nil ?_
   refine ev_tail rfl ?_
   refine v_one (i := 10) rfl (by kernel_rfl) rfl ?_
   refine o_store ty_22 rfl rfl rfl (.s (.s (.s (.s (.s (.s (.z))))))) rfl rfl rfl rfl ?_
   refine wl_nil ?_
   refine ev_tail rfl ?_
   refine v_done (by kernel_rfl) ?_
   refine e_seq ?_
   refine w_drawV 7 mixed ?_
   refine v_take (i := 0) rfl wanted_none (y_move rfl) (fun w h => h) (fun w h => h) rfl (pk_blk (pk_seq (pk_loop (pk_blk (pk_seq pk_fn))))) (by kernel_rfl) rfl ?_
   refine v_take (i := 1) rfl wanted_none (y_nilCheck rfl) (fun w h => h) (fun w h => h) rfl (pk_blk (pk_seq (pk_loop (pk_blk (pk_seq pk_fn))))) (by kernel_rfl) rfl ?_
   refine v_take (i := 2) rfl wanted_none (y_field fa_91_1 rfl) (fun w h => h) (fun w h => h) rfl (pk_blk (pk_seq (pk_loop (pk_blk (pk_seq pk_fn))))) (by kernel_rfl) rfl ?_
   refine v_take (i := 3) rfl wanted_none (y_loadr 6 ty_85 rfl rfl rfl) (fun w h => h) (fun w h => h) rfl (pk_blk (pk_seq (pk_loop (pk_blk (pk_seq pk_fn))))) (by kernel_rfl) rfl ?_
   refine v_take (i := 4) rfl wanted_none (y_loadrs 3 ty_47 rfl rfl rfl rfl) (fun w h => h) (fun w h => h) rfl (pk_blk (pk_seq (pk_loop (pk_blk (pk_seq pk_fn))))) (by kernel_rfl) rfl ?_
   refine v_take (i := 6) rfl wanted_none (y_loadrs 3 ty_47 rfl rfl rfl rfl) (fun w h => h) (fun w h => h) rfl (pk_blk (pk_seq (pk_loop (pk_blk (pk_seq pk_fn))))) (by kernel_rfl) rfl ?_
   refine v_one (i := 5) rfl (by kernel_rfl) rfl ?_
   refine o_callp rfl ent_48 (c_entry_Key _ _ _ _ _ (by have := hb9.h; omega)) rfl ?_
   refine wl_nil ?_
   refine ev_one (fun w h => h) ?_
   refine v_one (i := 7) rfl (by kernel_rfl) rfl ?_
   refine o_callu rfl ent_47 rfl (c_put_h hm r1 _ (⟨(l.getD k le0).e, A6, c6, B6, d6⟩ : Le)) (fun o => (.s (.s (.s (.s (.s (.s (.s (.s (.s (.z))))))))))) (List.mem_of_getElem? (i := 9) rfl) (fun s hs => nomatch hs) (fun o9 => ?_)
   refine wl_nil ?_
   refine ev_tail rfl ?_
   refine v_done (by kernel_rfl) ?_
   refine e_blk ?_
   refine e_seq ?_
   refine w_region ?_
   refine o_y (y_addi rfl rfl (by omega) (by omega)) rfl rfl ?_
   refine o_y (y_move rfl) rfl rfl ?_
   refine wl_nil ?_
   refine e_back ((k + 1, lc ++ [(⟨(l.getD k le0).e, A6, c6, B6, d6⟩ : Le)], A8, c8, putF hm (foldN (l.getD k le0).e.host) (⟨(l.getD k le0).e, A6, c6, B6, d6⟩ : Le))) ?_ ?_ ⟨rfl, trivial⟩ (by repeat (first | exact trivial | refine ⟨rfl, ?_⟩)) (fun w h => by
  have h2 := (h.weak (.cons _ (.cons_cons _ (.cons_cons _ (.cons _ (List.Sublist.refl _))))) (fun s hs => hs)).intoE
  show Hp _ _ (Ch.rall ((lc ++ [_]).flatMap elR) :: _) _ _
  rw [List.flatMap_append, List.flatMap_singleton]
  exact h2)
   ·exact ⟨by show k + 1 ≤ _; omega, by show (lc ++ [_]).map _ = (l.take (k + 1)).map _; rw [List.map_append, hI.2.1, take_getD l le0 k hk, List.map_append]; rfl, hm_put hI.2.2 (⟨(l.getD k le0).e, A6, c6, B6, d6⟩ : Le)⟩
   ·show l.length - (k + 1) < l.length - k
    omega
  refine wrv_cons (i := 6) rfl rfl ?_ ?_
  ·skip
   refine o_bsl (vs := [_]) ([(⟨(l.getD k le0).e, A6, c6, B6, d6⟩ : Le)] : List (Le)) enc_le Tryz.underlying22 ty_47 rfl rfl rfl rfl rfl rfl (fun As11 => ?_)
   refine wl_nil ?_
   refine ev_one (fun w h => h.weak (.cons _ (List.Sublist.refl _)) (fun s hs => hs)) ?_
   refine v_many (js := [0, 7]) (by kernel_rfl) rfl ?_
   refine wrv_cons (i := 0) rfl rfl ?_ ?_
   ·skip
    refine o_y (y_move rfl) rfl rfl ?_
    refine wl_nil ?_
    refine ev_one (fun w h => h.weak (.cons _ (List.Sublist.refl _)) (fun s hs => hs)) ?_
    refine v_one (i := 7) rfl (by kernel_rfl) rfl ?_
    refine o_appm (enc := elC) (sz := 7) [(⟨(l.getD k le0).e, A6, c6, B6, d6⟩ : Le)] Tryz.underlying22 ty_47 rfl rfl rfl (fun A c => (.s (.s (.s (.s (.s (.z))))))) (src_L 0 Tryz.underlying22 rfl) (by simp only [List.length_cons, List.length_nil, Nat.zero_add]; omega) (by simp only [List.length_cons, List.length_nil, Nat.zero_add]; omega) rfl (fun A11 c11 => ?_)
    refine wl_nil ?_
    refine ev_tail rfl ?_
    refine v_one (i := 8) rfl (by kernel_rfl) rfl ?_
    refine o_y (y_nilCheck rfl) rfl rfl ?_
    refine wl_nil ?_
    refine ev_tail rfl ?_
    refine v_one (i := 9) rfl (by kernel_rfl) rfl ?_
    refine o_y (y_field fa_91_0 rfl) rfl rfl ?_
    refine wl_nil ?_
    refine ev_tail rfl ?_
    refine v_one (i := 10) rfl (by kernel_rfl) rfl ?_
    refine o_store ty_22 rfl rfl rfl (.s (.s (.s (.s (.s (.s (.z))))))) rfl rfl rfl rfl ?_
    refine wl_nil ?_
    refine ev_tail rfl ?_
    refine v_done (by kernel_rfl) ?_
    refine e_seq ?_
    refine w_drawV 7 mixed ?_
    refine v_take (i := 0) rfl wanted_none (y_move rfl) (fun w h => h) (fun w h => h) rfl (pk_blk (pk_seq (pk_loop (pk_blk (pk_seq pk_fn))))) (by kernel_rfl) rfl ?_
    refine v_take (i := 1) rfl wanted_none (y_nilCheck rfl) (fun w h => h) (fun w h => h) rfl (pk_blk (pk_seq (pk_loop (pk_blk (pk_seq pk_fn))))) (by kernel_rfl) rfl ?_
    refine v_take (i := 2) rfl wanted_none (y_field fa_91_1 rfl) (fun w h => h) (fun w h => h) rfl (pk_blk (pk_seq (pk_loop (pk_blk (pk_seq pk_fn))))) (by kernel_rfl) rfl ?_
    refine v_take (i := 3) rfl wanted_none (y_loadr 6 ty_85 rfl rfl rfl) (fun w h => h) (fun w h => h) rfl (pk_blk (pk_seq (pk_loop (pk_blk (pk_seq pk_fn))))) (by kernel_rfl) rfl ?_
    refine v_take (i := 4) rfl wanted_none (y_loadrs 3 ty_47 rfl rfl rfl rfl) (fun w h => h) (fun w h => h) rfl (pk_blk (pk_seq (pk_loop (pk_blk (pk_seq pk_fn))))) (by kernel_rfl) rfl ?_
    refine v_take (i := 6) rfl wanted_none (y_loadrs 3 ty_47 rfl rfl rfl rfl) (fun w h => h) (fun w h => h) rfl (pk_blk (pk_seq (pk_loop (pk_blk (pk_seq pk_fn))))) (by kernel_rfl) rfl ?_
    refine v_one (i := 5) rfl (by kernel_rfl) rfl ?_
    refine o_callp rfl ent_48 (c_entry_Key _ _ _ _ _ (by have := hb9.h; omega)) rfl ?_
    refine wl_nil ?_
    refine ev_one (fun w h => h) ?_
    refine v_one (i := 7) rfl (by kernel_rfl) rfl ?_
    refine o_callu rfl ent_47 rfl (c_put_h hm r1 _ (⟨(l.getD k le0).e, A6, c6, B6, d6⟩ : Le)) (fun o => (.s (.s (.s (.s (.s (.s (.s (.s (.s (.z))))))))))) (List.mem_of_getElem? (i := 9) rfl) (fun s hs => nomatch hs) (fun o12 => ?_)
    refine wl_nil ?_
    refine ev_tail rfl ?_
    refine v_done (by kernel_rfl) ?_
    refine e_blk ?_
    refine e_seq ?_
    refine w_region ?_
    refine o_y (y_addi rfl rfl (by omega) (by omega)) rfl rfl ?_
    refine o_y (y_move rfl) rfl rfl ?_
    refine wl_nil ?_
    refine e_back ((k + 1, lc ++ [(⟨(l.getD k le0).e, A6, c6, B6, d6⟩ : Le)], A11, c11, putF hm (foldN (l.getD k le0).e.host) (⟨(l.getD k le0).e, A6, c6, B6, d6⟩ : Le))) ?_ ?_ ⟨rfl, trivial⟩ (by repeat (first | exact trivial | refine ⟨rfl, ?_⟩)) (fun w h => by
  have h2 := (h.weak (.cons _ (.cons_cons _ (.cons_cons _ (.cons _ (List.Sublist.refl _))))) (fun s hs => hs)).intoE
  show Hp _ _ (Ch.rall ((lc ++ [_]).flatMap elR) :: _) _ _
  rw [List.flatMap_append, List.flatMap_singleton]
  exact h2)
    ·exact ⟨by show k + 1 ≤ _; omega, by show (lc ++ [_]).map _ = (l.take (k + 1)).map _; rw [List.map_append, hI.2.1, take_getD l le0 k hk, List.map_append]; rfl, hm_put hI.2.2 (⟨(l.getD k le0).e, A6, c6, B6, d6⟩ : Le)⟩
    ·show l.length - (k + 1) < l.length - k
     omega
   refine wrv_cons (i := 7) rfl rfl ?_ ?_
   ·skip
    refine o_appm (enc := elC) (sz := 7) [(⟨(l.getD k le0).e, A6, c6, B6, d6⟩ : Le)] Tryz.underlying22 ty_47 rfl rfl rfl (fun A c => (.s (.s (.s (.s (.s (.z))))))) (src_L 0 Tryz.underlying22 rfl) (by simp only [List.length_cons, List.length_nil, Nat.zero_add]; omega) (by simp only [List.length_cons, List.length_nil, Nat.zero_add]; omega) rfl (fun A13 c13 => ?_)
    refine wl_nil ?_
    refine ev_tail rfl ?_
    refine v_one (i := 0) rfl (by kernel_rfl) rfl ?_
    refine o_y (y_move rfl) rfl rfl ?_
    refine wl_nil ?_
    refine ev_tail rfl ?_
    refine v_one (i := 8) rfl (by kernel_rfl) rfl ?_
    refine o_y (y_nilCheck rfl) rfl rfl ?_
    refine wl_nil ?_
    refine ev_tail rfl ?_
    refine v_one (i := 9) rfl (by kernel_rfl) rfl ?_
    refine o_y (y_field fa_91_0 rfl) rfl rfl ?_
    refine wl_nil ?_
    refine ev_tail rfl ?_
    refine v_one (i := 10) rfl (by kernel_rfl) rfl ?_
    refine o_store ty_22 rfl rfl rfl (.s (.s (.s (.s (.s (.s (.z))))))) rfl rfl rfl rfl ?_
    refine wl_nil ?_
    refine ev_tail rfl ?_
    refine v_done (by kernel_rfl) ?_
    refine e_seq ?_
    refine w_drawV 7 mixed ?_
    refine v_take (i := 0) rfl wanted_none (y_move rfl) (fun w h => h) (fun w h => h) rfl (pk_blk (pk_seq (pk_loop (pk_blk (pk_seq pk_fn))))) (by kernel_rfl) rfl ?_
    refine v_take (i := 1) rfl wanted_none (y_nilCheck rfl) (fun w h => h) (fun w h => h) rfl (pk_blk (pk_seq (pk_loop (pk_blk (pk_seq pk_fn))))) (by kernel_rfl) rfl ?_
    refine v_take (i := 2) rfl wanted_none (y_field fa_91_1 rfl) (fun w h => h) (fun w h => h) rfl (pk_blk (pk_seq (pk_loop (pk_blk (pk_seq pk_fn))))) (by kernel_rfl) rfl ?_
    refine v_take (i := 3) rfl wanted_none (y_loadr 6 ty_85 rfl rfl rfl) (fun w h => h) (fun w h => h) rfl (pk_blk (pk_seq (pk_loop (pk_blk (pk_seq pk_fn))))) (by kernel_rfl) rfl ?_
    refine v_take (i := 4) rfl wanted_none (y_loadrs 3 ty_47 rfl rfl rfl rfl) (fun w h => h) (fun w h => h) rfl (pk_blk (pk_seq (pk_loop (pk_blk (pk_seq pk_fn))))) (by kernel_rfl) rfl ?_
    refine v_take (i := 6) rfl wanted_none (y_loadrs 3 ty_47 rfl rfl rfl rfl) (fun w h => h) (fun w h => h) rfl (pk_blk (pk_seq (pk_loop (pk_blk (pk_seq pk_fn))))) (by kernel_rfl) rfl ?_
    refine v_one (i := 5) rfl (by kernel_rfl) rfl ?_
    refine o_callp rfl ent_48 (c_entry_Key _ _ _ _ _ (by have := hb9.h; omega)) rfl ?_
    refine wl_nil ?_
    refine ev_one (fun w h => h) ?_
    refine v_one (i := 7) rfl (by kernel_rfl) rfl ?_
    refine o_callu rfl ent_47 rfl (c_put_h hm r1 _ (⟨(l.getD k le0).e, A6, c6, B6, d6⟩ : Le)) (fun o => (.s (.s (.s (.s (.s (.s (.s (.s (.s (.z))))))))))) (List.mem_of_getElem? (i := 9) rfl) (fun s hs => nomatch hs) (fun o14 => ?_)
    refine wl_nil ?_
    refine ev_tail rfl ?_
    refine v_done (by kernel_rfl) ?_
    refine e_blk ?_
    refine e_seq ?_
    refine w_region ?_
    refine o_y (y_addi rfl rfl (by omega) (by omega)) rfl rfl ?_
    refine o_y (y_move rfl) rfl rfl ?_
    refine wl_nil ?_
    refine e_back ((k + 1, lc ++ [(⟨(l.getD k le0).e, A6, c6, B6, d6⟩ : Le)], A13, c13, putF hm (foldN (l.getD k le0).e.host) (⟨(l.getD k le0).e, A6, c6, B6, d6⟩ : Le))) ?_ ?_ ⟨rfl, trivial⟩ (by repeat (first | exact trivial | refine ⟨rfl, ?_⟩)) (fun w h => by
  have h2 := (h.weak (.cons _ (.cons_cons _ (.cons_cons _ (.cons _ (List.Sublist.refl _))))) (fun s hs => hs)).intoE
  show Hp _ _ (Ch.rall ((lc ++ [_]).flatMap elR) :: _) _ _
  rw [List.flatMap_append, List.flatMap_singleton]
  exact h2)
    ·exact ⟨by show k + 1 ≤ _; omega, by show (lc ++ [_]).map _ = (l.take (k + 1)).map _; rw [List.map_append, hI.2.1, take_getD l le0 k hk, List.map_append]; rfl, hm_put hI.2.2 (⟨(l.getD k le0).e, A6, c6, B6, d6⟩ : Le)⟩
    ·show l.length - (k + 1) < l.length - k
     omega
   exact wrv_nil
  exact wrv_nil
 ·skip
  refine wl_nil ?_
  refine e_seq ?_
  refine w_seq ?_
  refine w_cond_f rfl ?_
  refine w_exit ?_
  refine e_seq_exit ?_
  refine e_loop_exit ?_
  refine e_blk_hit ?_
  refine e_seq ?_
  refine w_seq ?_
  refine w_seq ?_
  have hkl : k = l.length := by omega
  subst hkl
  have hI9 : lc.map (·.e) = l.map (·.e) := by rw [hI.2.1, List.take_length]
  have hI8 := hI.2.2
  have hlc := take_len_eq hI.2.1
  refine w_region ?_
  refine o_y (y_move rfl) rfl rfl ?_
  refine o_y (y_lenl Tryz.underlying25 rfl) rfl rfl ?_
  refine o_y (y_move rfl) rfl rfl ?_
  refine wl_nil ?_
  refine e_seq ?_
  refine w_block ?_
  refine w_heap (fun w h => h.f4) ?_
  refine w_heap (fun w h => h.f4) ?_
  refine w_loop2 (σ := Nat × List (Str × Ad) × List (Ad × Le)) [4, 5, 11, 12, 13, 58, 59, 60, 61, 62, 63, 64, 65, 66, 67, 68, 69, 70, 71, 72, 73, 74, 75, 76, 77, 78, 79, 80, 81, 82, 83, 84, 85, 86, 87, 88, 89, 90, 91, 92, 93, 94, 95, 96, 97, 98, 99, 100, 101, 102, 103, 104, 105, 106, 107, 108, 109, 110, 111, 112, 113, 114, 115] (fun q => q.1 ≤ hs.length ∧ (∀ i, i < q.1 → okH (l.map (·.e)) (hs.take i) (hs.getD i hd0)) ∧ DmOk q.2.1 (hs.take q.1) ∧ AmOk0 q.2.2 hm (hs.take q.1)) (fun q => hs.length - q.1) (fun q => [(58, .int .i64 q.1)]) (fun q => Ch.mp r3 encA encE q.2.2) (fun q => Ch.mp r2 encN encA q.2.1) ((0, [], [])) ?_ ⟨rfl, trivial⟩ rfl rfl (fun q hI => ?_)
  ·exact ⟨Nat.zero_le _, nofun, dm_nil, am_nil hm⟩
  obtain ⟨i, dm, am⟩ := q
  dsimp only at hI ⊢
  refine w_seq ?_
  refine w_region ?_
  refine o_y (y_lss rfl rfl) rfl rfl ?_
  refine wl_splitp (t := 59) rfl (fun h13_0 => ?_) (fun h13_0 => ?_)
  ·skip
   have hi : i < hs.length := by omega
   have hih := hhh _ (mem_getD (d := hd0) hi)
   have hil := hih.1
   refine wl_nil ?_
   refine e_seq ?_
   refine w_seq ?_
   refine w_cond_t rfl ?_
   refine w_skip ?_
   refine e_seq ?_
   refine w_seq ?_
   refine w_block ?_
   refine w_seq ?_
   refine w_region ?_
   refine o_y (y_ixm  Tryz.underlying25 ty_42 rfl rfl (rs_S 2 rfl) rfl (by omega)) rfl rfl ?_
   refine o_y (y_ldsm0 enc_hd hd0 ty_42 rfl (rs_S 2 rfl) (by omega) rfl rfl rfl) rfl rfl ?_
   refine o_alloc ty_42 rfl rfl (fun b16 => ?_)
   refine o_store ty_42 rfl rfl rfl .z rfl rfl rfl rfl ?_
   refine wl_nil ?_
   refine e_seq ?_
   refine w_seq ?_
   refine w_drawV 13 mixed ?_
   refine v_take (i := 0) rfl wanted_none (y_move rfl) (fun w h => h) (fun w h => h) rfl (pk_seq (pk_blk (pk_seq (pk_loop (pk_blk (pk_seq pk_fn)))))) (by kernel_rfl) rfl ?_
   refine v_take (i := 1) rfl wanted_none (y_nilCheck rfl) (fun w h => h) (fun w h => h) rfl (pk_seq (pk_blk (pk_seq (pk_loop (pk_blk (pk_seq pk_fn)))))) (by kernel_rfl) rfl ?_
   refine v_take (i := 2) rfl wanted_none (y_field fa_91_1 rfl) (fun w h => h) (fun w h => h) rfl (pk_seq (pk_blk (pk_seq (pk_loop (pk_blk (pk_seq pk_fn)))))) (by kernel_rfl) rfl ?_
   refine v_take (i := 3) rfl wanted_none (y_loadr 5 ty_85 rfl rfl rfl) (fun w h => h) (fun w h => h) rfl (pk_seq (pk_blk (pk_seq (pk_loop (pk_blk (pk_seq pk_fn)))))) (by kernel_rfl) rfl ?_
   refine v_take (i := 4) rfl wanted_none (y_field fa_42_0 rfl) (fun w h => h) (fun w h => h) rfl (pk_seq (pk_blk (pk_seq (pk_loop (pk_blk (pk_seq pk_fn)))))) (by kernel_rfl) rfl ?_
   refine v_take (i := 5) rfl wanted_none (y_loadr 0 ty_36 rfl rfl rfl) (fun w h => h) (fun w h => h) rfl (pk_seq (pk_blk (pk_seq (pk_loop (pk_blk (pk_seq pk_fn)))))) (by kernel_rfl) rfl ?_
   refine v_many (js := [6, 11]) (by kernel_rfl) rfl ?_
   refine wrv_cons (i := 6) rfl rfl ?_ ?_
   ·skip
    refine o_callp rfl ent_50 (p_name_Fold _ (by omega)) rfl ?_
    refine wl_nil ?_
    refine ev_one (fun w h => h) ?_
    refine v_many (js := [7, 11]) (by kernel_rfl) rfl ?_
    refine wrv_cons (i := 7) rfl rfl ?_ ?_
    ·skip
     refine o_callq rfl ent_49 rfl (c_ask_h hm r1 _) (fun w hw => (rd_cons (rd_L 6 rfl hw) rd_nil)) ?_
     refine wl_nil ?_
     refine ev_one (fun w h => h) ?_
     refine v_take (i := 8) rfl wanted_none (y_move rfl) (fun w h => h) (fun w h => h) rfl (pk_seq (pk_blk (pk_seq (pk_loop (pk_blk (pk_seq pk_fn)))))) (by kernel_rfl) rfl ?_
     refine v_take (i := 9) rfl wanted_none (y_extract rfl rfl) (fun w h => h) (fun w h => h) rfl (pk_seq (pk_blk (pk_seq (pk_loop (pk_blk (pk_seq pk_fn)))))) (by kernel_rfl) rfl ?_
     refine v_take (i := 10) rfl wanted_none (y_extract rfl rfl) (fun w h => h) (fun w h => h) rfl (pk_seq (pk_blk (pk_seq (pk_loop (pk_blk (pk_seq pk_fn)))))) (by kernel_rfl) rfl ?_
     refine wv_splitb (t := 72) rfl (fun h15_10 => ?_) (fun h15_10 => ?_)
     ·skip
      have hfm := hm_some hI8 h15_10
      have hbf := es_bnd hI9 hok hfm.1
      refine v_one (i := 11) rfl (by kernel_rfl) rfl ?_
      refine o_alloc ty_47 rfl rfl (fun b17 => ?_)
      refine wl_nil ?_
      refine ev_one (fun w h => h.weak (.cons _ (List.Sublist.refl _)) (fun s hs => hs)) ?_
      refine v_one (i := 12) rfl (by kernel_rfl) rfl ?_
      refine o_store ty_47 rfl rfl rfl .z rfl rfl rfl rfl ?_
      refine wl_nil ?_
      refine ev_one (fun w h => h.weak (.cons _ (List.Sublist.refl _)) (fun s hs => hs)) ?_
      refine v_one (i := 13) rfl (by kernel_rfl) rfl ?_
      refine o_y (y_assign rfl) rfl rfl ?_
      refine wl_nil ?_
      refine ev_tail rfl ?_
      refine v_done (by kernel_rfl) ?_
      refine e_seq ?_
      refine w_seq ?_
      refine w_drawVA 42 mixed (fun w h => ((h.anymp (.s (.s (.s (.z))))).anymp (.s (.s (.z))))) ?_
      refine v_take (i := 0) rfl wanted_none (y_move rfl) (fun w h => ((h.anymp (.s (.s (.s (.z))))).anymp (.s (.s (.z))))) (fun w h => h) rfl (pk_seq (pk_blk (pk_seq (pk_loop (pk_blk (pk_seq pk_fn)))))) (by kernel_rfl) rfl ?_
      refine v_take (i := 1) rfl wanted_none (y_not rfl) (fun w h => ((h.anymp (.s (.s (.s (.z))))).anymp (.s (.s (.z))))) (fun w h => h) rfl (pk_seq (pk_blk (pk_seq (pk_loop (pk_blk (pk_seq pk_fn)))))) (by kernel_rfl) rfl ?_
      refine v_take (i := 2) rfl wanted_none (y_move rfl) (fun w h => ((h.anymp (.s (.s (.s (.z))))).anymp (.s (.s (.z))))) (fun w h => h) rfl (pk_seq (pk_blk (pk_seq (pk_loop (pk_blk (pk_seq pk_fn)))))) (by kernel_rfl) rfl ?_
      refine v_take (i := 3) rfl (wanted_yes rfl rfl) (y_field fa_42_0 rfl) (fun w h => ((h.anymp (.s (.s (.s (.z))))).anymp (.s (.s (.z))))) (fun w h => h) rfl (pk_seq (pk_blk (pk_seq (pk_loop (pk_blk (pk_seq pk_fn)))))) (by kernel_rfl) rfl ?_
      refine v_take (i := 4) rfl (wanted_yes rfl rfl) (y_loadr 1 ty_36 rfl rfl rfl) (fun w h => ((h.anymp (.s (.s (.s (.z))))).anymp (.s (.s (.z))))) (fun w h => h) rfl (pk_seq (pk_blk (pk_seq (pk_loop (pk_blk (pk_seq pk_fn)))))) (by kernel_rfl) rfl ?_
      refine v_one (i := 5) rfl (by kernel_rfl) rfl ?_
      refine wl_gyes rfl rfl ?_
      refine o_callp rfl ent_51 (c_name_Check _) rfl ?_
      refine wl_nil ?_
      refine ev_one (fun w h => ((h.anymp (.s (.s (.s (.z))))).anymp (.s (.s (.z))))) ?_
      refine v_take (i := 6) rfl (wanted_yes rfl rfl) (y_neq rfl rfl) (fun w h => ((h.anymp (.s (.s (.s (.z))))).anymp (.s (.s (.z))))) (fun w h => h) rfl (pk_seq (pk_blk (pk_seq (pk_loop (pk_blk (pk_seq pk_fn)))))) (by kernel_rfl) rfl ?_
      refine wv_splitp (t := 79) rfl (fun h16_6 => ?_) (fun h16_6 => ?_)
      ·skip
       refine v_take (i := 7) rfl wanted_none (y_pick_f rfl rfl) (fun w h => ((h.anymp (.s (.s (.s (.z))))).anymp (.s (.s (.z))))) (fun w h => h) rfl (pk_seq (pk_blk (pk_seq (pk_loop (pk_blk (pk_seq pk_fn)))))) (by kernel_rfl) rfl ?_
       refine v_take (i := 8) rfl wanted_none (y_move rfl) (fun w h => ((h.anymp (.s (.s (.s (.z))))).anymp (.s (.s (.z))))) (fun w h => h) rfl (pk_seq (pk_blk (pk_seq (pk_loop (pk_blk (pk_seq pk_fn)))))) (by kernel_rfl) rfl ?_
       refine v_skip (i := 9) rfl (wanted_no rfl rfl rfl) (fun w h => ((h.anymp (.s (.s (.s (.z))))).anymp (.s (.s (.z))))) rfl (pk_seq (pk_blk (pk_seq (pk_loop (pk_blk (pk_seq pk_fn)))))) (by kernel_rfl) rfl ?_
       refine v_skip (i := 10) rfl (wanted_no rfl rfl rfl) (fun w h => ((h.anymp (.s (.s (.s (.z))))).anymp (.s (.s (.z))))) rfl (pk_seq (pk_blk (pk_seq (pk_loop (pk_blk (pk_seq pk_fn)))))) (by kernel_rfl) rfl ?_
       refine v_skip (i := 11) rfl (wanted_no rfl rfl rfl) (fun w h => ((h.anymp (.s (.s (.s (.z))))).anymp (.s (.s (.z))))) rfl (pk_seq (pk_blk (pk_seq (pk_loop (pk_blk (pk_seq pk_fn)))))) (by kernel_rfl) rfl ?_
       refine v_take (i := 12) rfl wanted_none (y_pick_t rfl rfl) (fun w h => ((h.anymp (.s (.s (.s (.z))))).anymp (.s (.s (.z))))) (fun w h => h) rfl (pk_seq (pk_blk (pk_seq (pk_loop (pk_blk (pk_seq pk_fn)))))) (by kernel_rfl) rfl ?_
       refine v_take (i := 13) rfl wanted_none (y_move rfl) (fun w h => ((h.anymp (.s (.s (.s (.z))))).anymp (.s (.s (.z))))) (fun w h => h) rfl (pk_seq (pk_blk (pk_seq (pk_loop (pk_blk (pk_seq pk_fn)))))) (by kernel_rfl) rfl ?_
       refine v_skip (i := 14) rfl (wanted_no rfl rfl rfl) (fun w h => ((h.anymp (.s (.s (.s (.z))))).anymp (.s (.s (.z))))) rfl (pk_seq (pk_blk (pk_seq (pk_loop (pk_blk (pk_seq pk_fn)))))) (by kernel_rfl) rfl ?_
       refine v_skip (i := 15) rfl (wanted_no rfl rfl rfl) (fun w h => ((h.anymp (.s (.s (.s (.z))))).anymp (.s (.s (.z))))) rfl (pk_seq (pk_blk (pk_seq (pk_loop (pk_blk (pk_seq pk_fn)))))) (by kernel_rfl) rfl ?_
       refine v_skip (i := 16) rfl (wanted_no rfl rfl rfl) (fun w h => ((h.anymp (.s (.s (.s (.z))))).anymp (.s (.s (.z))))) rfl (pk_seq (pk_blk (pk_seq (pk_loop (pk_blk (pk_seq pk_fn)))))) (by kernel_rfl) rfl ?_
       refine v_skip (i := 17) rfl (wanted_no rfl rfl rfl) (fun w h => ((h.anymp (.s (.s (.s (.z))))).anymp (.s (.s (.z))))) rfl (pk_seq (pk_blk (pk_seq (pk_loop (pk_blk (pk_seq pk_fn)))))) (by kernel_rfl) rfl ?_
       refine v_take (i := 18) rfl wanted_none (y_pick_t rfl rfl) (fun w h => ((h.anymp (.s (.s (.s (.z))))).anymp (.s (.s (.z))))) (fun w h => h) rfl (pk_seq (pk_blk (pk_seq (pk_loop (pk_blk (pk_seq pk_fn)))))) (by kernel_rfl) rfl ?_
       refine v_take (i := 19) rfl wanted_none (y_move rfl) (fun w h => ((h.anymp (.s (.s (.s (.z))))).anymp (.s (.s (.z))))) (fun w h => h) rfl (pk_seq (pk_blk (pk_seq (pk_loop (pk_blk (pk_seq pk_fn)))))) (by kernel_rfl) rfl ?_
       refine v_skip (i := 20) rfl (wanted_no rfl rfl rfl) (fun w h => ((h.anymp (.s (.s (.s (.z))))).anymp (.s (.s (.z))))) rfl (pk_seq (pk_blk (pk_seq (pk_loop (pk_blk (pk_seq pk_fn)))))) (by kernel_rfl) rfl ?_
       refine v_skip (i := 21) rfl (wanted_no rfl rfl rfl) (fun w h => ((h.anymp (.s (.s (.s (.z))))).anymp (.s (.s (.z))))) rfl (pk_seq (pk_blk (pk_seq (pk_loop (pk_blk (pk_seq pk_fn)))))) (by kernel_rfl) rfl ?_
       refine v_skip (i := 22) rfl (wanted_no rfl rfl rfl) (fun w h => ((h.anymp (.s (.s (.s (.z))))).anymp (.s (.s (.z))))) rfl (pk_seq (pk_blk (pk_seq (pk_loop (pk_blk (pk_seq pk_fn)))))) (by kernel_rfl) rfl ?_
       refine v_skip (i := 23) rfl (wanted_no rfl rfl rfl) (fun w h => ((h.anymp (.s (.s (.s (.z))))).anymp (.s (.s (.z))))) rfl (pk_seq (pk_blk (pk_seq (pk_loop (pk_blk (pk_seq pk_fn)))))) (by kernel_rfl) rfl ?_
       refine v_skip (i := 24) rfl (wanted_no rfl rfl rfl) (fun w h => ((h.anymp (.s (.s (.s (.z))))).anymp (.s (.s (.z))))) rfl (pk_seq (pk_blk (pk_seq (pk_loop (pk_blk (pk_seq pk_fn)))))) (by kernel_rfl) rfl ?_
       refine v_skip (i := 26) rfl (wanted_no rfl rfl rfl) (fun w h => ((h.anymp (.s (.s (.s (.z))))).anymp (.s (.s (.z))))) rfl (pk_seq (pk_blk (pk_seq (pk_loop (pk_blk (pk_seq pk_fn)))))) (by kernel_rfl) rfl ?_
       refine v_skip (i := 27) rfl (wanted_no rfl rfl rfl) (fun w h => ((h.anymp (.s (.s (.s (.z))))).anymp (.s (.s (.z))))) rfl (pk_seq (pk_blk (pk_seq (pk_loop (pk_blk (pk_seq pk_fn)))))) (by kernel_rfl) rfl ?_
       refine v_skip (i := 25) rfl (wanted_no rfl rfl rfl) (fun w h => ((h.anymp (.s (.s (.s (.z))))).anymp (.s (.s (.z))))) rfl (pk_seq (pk_blk (pk_seq (pk_loop (pk_blk (pk_seq pk_fn)))))) (by kernel_rfl) rfl ?_
       refine v_skip (i := 28) rfl (wanted_no rfl rfl rfl) (fun w h => ((h.anymp (.s (.s (.s (.z))))).anymp (.s (.s (.z))))) rfl (pk_seq (pk_blk (pk_seq (pk_loop (pk_blk (pk_seq pk_fn)))))) (by kernel_rfl) rfl ?_
       refine v_skip (i := 29) rfl (wanted_no rfl rfl rfl) (fun w h => ((h.anymp (.s (.s (.s (.z))))).anymp (.s (.s (.z))))) rfl (pk_seq (pk_blk (pk_seq (pk_loop (pk_blk (pk_seq pk_fn)))))) (by kernel_rfl) rfl ?_
       refine v_take (i := 30) rfl wanted_none (y_pick_t rfl rfl) (fun w h => ((h.anymp (.s (.s (.s (.z))))).anymp (.s (.s (.z))))) (fun w h => h) rfl (pk_seq (pk_blk (pk_seq (pk_loop (pk_blk (pk_seq pk_fn)))))) (by kernel_rfl) rfl ?_
       refine v_take (i := 31) rfl wanted_none (y_move rfl) (fun w h => ((h.anymp (.s (.s (.s (.z))))).anymp (.s (.s (.z))))) (fun w h => h) rfl (pk_seq (pk_blk (pk_seq (pk_loop (pk_blk (pk_seq pk_fn)))))) (by kernel_rfl) rfl ?_
       refine v_skip (i := 32) rfl (wanted_no rfl rfl rfl) (fun w h => ((h.anymp (.s (.s (.s (.z))))).anymp (.s (.s (.z))))) rfl (pk_seq (pk_blk (pk_seq (pk_loop (pk_blk (pk_seq pk_fn)))))) (by kernel_rfl) rfl ?_
       refine v_skip (i := 33) rfl (wanted_no rfl rfl rfl) (fun w h => ((h.anymp (.s (.s (.s (.z))))).anymp (.s (.s (.z))))) rfl (pk_seq (pk_blk (pk_seq (pk_loop (pk_blk (pk_seq pk_fn)))))) (by kernel_rfl) rfl ?_
       refine v_skip (i := 34) rfl (wanted_no rfl rfl rfl) (fun w h => ((h.anymp (.s (.s (.s (.z))))).anymp (.s (.s (.z))))) rfl (pk_seq (pk_blk (pk_seq (pk_loop (pk_blk (pk_seq pk_fn)))))) (by kernel_rfl) rfl ?_
       refine v_skip (i := 35) rfl (wanted_no rfl rfl rfl) (fun w h => ((h.anymp (.s (.s (.s (.z))))).anymp (.s (.s (.z))))) rfl (pk_seq (pk_blk (pk_seq (pk_loop (pk_blk (pk_seq pk_fn)))))) (by kernel_rfl) rfl ?_
       refine v_skip (i := 36) rfl (wanted_no rfl rfl rfl) (fun w h => ((h.anymp (.s (.s (.s (.z))))).anymp (.s (.s (.z))))) rfl (pk_seq (pk_blk (pk_seq (pk_loop (pk_blk (pk_seq pk_fn)))))) (by kernel_rfl) rfl ?_
       refine v_skip (i := 37) rfl (wanted_no rfl rfl rfl) (fun w h => ((h.anymp (.s (.s (.s (.z))))).anymp (.s (.s (.z))))) rfl (pk_seq (pk_blk (pk_seq (pk_loop (pk_blk (pk_seq pk_fn)))))) (by kernel_rfl) rfl ?_
       refine v_skip (i := 38) rfl (wanted_no rfl rfl rfl) (fun w h => ((h.anymp (.s (.s (.s (.z))))).anymp (.s (.s (.z))))) rfl (pk_seq (pk_blk (pk_seq (pk_loop (pk_blk (pk_seq pk_fn)))))) (by kernel_rfl) rfl ?_
       refine v_skip (i := 39) rfl (wanted_no rfl rfl rfl) (fun w h => ((h.anymp (.s (.s (.s (.z))))).anymp (.s (.s (.z))))) rfl (pk_seq (pk_blk (pk_seq (pk_loop (pk_blk (pk_seq pk_fn)))))) (by kernel_rfl) rfl ?_
       refine v_skip (i := 40) rfl (wanted_no rfl rfl rfl) (fun w h => ((h.anymp (.s (.s (.s (.z))))).anymp (.s (.s (.z))))) rfl (pk_seq (pk_blk (pk_seq (pk_loop (pk_blk (pk_seq pk_fn)))))) (by kernel_rfl) rfl ?_
       refine v_take (i := 41) rfl wanted_none (y_pick_t rfl rfl) (fun w h => ((h.anymp (.s (.s (.s (.z))))).anymp (.s (.s (.z))))) (fun w h => h) rfl (pk_seq (pk_blk (pk_seq (pk_loop (pk_blk (pk_seq pk_fn)))))) (by kernel_rfl) rfl ?_
       refine v_done (by kernel_rfl) ?_
       refine e_seq ?_
       refine w_cond_t rfl ?_
       refine w_seq ?_
       refine w_region ?_
       refine o_y (y_assign rfl) rfl rfl ?_
       refine o_y (y_assign rfl) rfl rfl ?_
       refine wl_nil ?_
       refine e_seq ?_
       refine w_ret ?_
       refine e_blk_ret ?_
       refine e_seq_ret ?_
       refine e_loop_ret ?_
       refine e_blk_ret ?_
       refine e_seq_ret ?_
       refine e_ret (ts := [4, 5]) rfl rfl rfl (fun w hw => ?_)
       have hno : ¬ HeldOk (l.map (·.e)) hs := fun H => by
         obtain ⟨q1, ⟨e, q2, q3⟩, q4, q5, q6⟩ := H i hi
         exact h16_6 q1
       exact ⟨⟨none, fun _ => hno, nofun⟩, rfl, hw.base, ((hw.weak (List.nil_sublist _) (fun s hs => hs)).rall0).toNews⟩
      ·skip
       refine v_take (i := 7) rfl wanted_none (y_pick_f rfl rfl) (fun w h => ((h.anymp (.s (.s (.s (.z))))).anymp (.s (.s (.z))))) (fun w h => h) rfl (pk_seq (pk_blk (pk_seq (pk_loop (pk_blk (pk_seq pk_fn)))))) (by kernel_rfl) rfl ?_
       refine v_take (i := 8) rfl wanted_none (y_move rfl) (fun w h => ((h.anymp (.s (.s (.s (.z))))).anymp (.s (.s (.z))))) (fun w h => h) rfl (pk_seq (pk_blk (pk_seq (pk_loop (pk_blk (pk_seq pk_fn)))))) (by kernel_rfl) rfl ?_
       refine v_take (i := 9) rfl (wanted_yes rfl rfl) (y_field fa_47_1 rfl) (fun w h => ((h.anymp (.s (.s (.s (.z))))).anymp (.s (.s (.z))))) (fun w h => h) rfl (pk_seq (pk_blk (pk_seq (pk_loop (pk_blk (pk_seq pk_fn)))))) (by kernel_rfl) rfl ?_
       refine v_take (i := 10) rfl (wanted_yes rfl rfl) (y_loadr 0 ty_3 rfl rfl rfl) (fun w h => ((h.anymp (.s (.s (.s (.z))))).anymp (.s (.s (.z))))) (fun w h => h) rfl (pk_seq (pk_blk (pk_seq (pk_loop (pk_blk (pk_seq pk_fn)))))) (by kernel_rfl) rfl ?_
       refine v_take (i := 11) rfl (wanted_yes rfl rfl) (y_neq rfl rfl) (fun w h => ((h.anymp (.s (.s (.s (.z))))).anymp (.s (.s (.z))))) (fun w h => h) rfl (pk_seq (pk_blk (pk_seq (pk_loop (pk_blk (pk_seq pk_fn)))))) (by kernel_rfl) rfl ?_
       refine wv_splitp (t := 84) rfl (fun h16_11 => ?_) (fun h16_11 => ?_)
       ·skip
        refine v_take (i := 12) rfl wanted_none (y_pick_f rfl rfl) (fun w h => ((h.anymp (.s (.s (.s (.z))))).anymp (.s (.s (.z))))) (fun w h => h) rfl (pk_seq (pk_blk (pk_seq (pk_loop (pk_blk (pk_seq pk_fn)))))) (by kernel_rfl) rfl ?_
        refine v_take (i := 13) rfl wanted_none (y_move rfl) (fun w h => ((h.anymp (.s (.s (.s (.z))))).anymp (.s (.s (.z))))) (fun w h => h) rfl (pk_seq (pk_blk (pk_seq (pk_loop (pk_blk (pk_seq pk_fn)))))) (by kernel_rfl) rfl ?_
        refine v_skip (i := 14) rfl (wanted_no rfl rfl rfl) (fun w h => ((h.anymp (.s (.s (.s (.z))))).anymp (.s (.s (.z))))) rfl (pk_seq (pk_blk (pk_seq (pk_loop (pk_blk (pk_seq pk_fn)))))) (by kernel_rfl) rfl ?_
        refine v_skip (i := 15) rfl (wanted_no rfl rfl rfl) (fun w h => ((h.anymp (.s (.s (.s (.z))))).anymp (.s (.s (.z))))) rfl (pk_seq (pk_blk (pk_seq (pk_loop (pk_blk (pk_seq pk_fn)))))) (by kernel_rfl) rfl ?_
        refine v_skip (i := 16) rfl (wanted_no rfl rfl rfl) (fun w h => ((h.anymp (.s (.s (.s (.z))))).anymp (.s (.s (.z))))) rfl (pk_seq (pk_blk (pk_seq (pk_loop (pk_blk (pk_seq pk_fn)))))) (by kernel_rfl) rfl ?_
        refine v_skip (i := 17) rfl (wanted_no rfl rfl rfl) (fun w h => ((h.anymp (.s (.s (.s (.z))))).anymp (.s (.s (.z))))) rfl (pk_seq (pk_blk (pk_seq (pk_loop (pk_blk (pk_seq pk_fn)))))) (by kernel_rfl) rfl ?_
        refine v_take (i := 18) rfl wanted_none (y_pick_t rfl rfl) (fun w h => ((h.anymp (.s (.s (.s (.z))))).anymp (.s (.s (.z))))) (fun w h => h) rfl (pk_seq (pk_blk (pk_seq (pk_loop (pk_blk (pk_seq pk_fn)))))) (by kernel_rfl) rfl ?_
        refine v_take (i := 19) rfl wanted_none (y_move rfl) (fun w h => ((h.anymp (.s (.s (.s (.z))))).anymp (.s (.s (.z))))) (fun w h => h) rfl (pk_seq (pk_blk (pk_seq (pk_loop (pk_blk (pk_seq pk_fn)))))) (by kernel_rfl) rfl ?_
        refine v_skip (i := 20) rfl (wanted_no rfl rfl rfl) (fun w h => ((h.anymp (.s (.s (.s (.z))))).anymp (.s (.s (.z))))) rfl (pk_seq (pk_blk (pk_seq (pk_loop (pk_blk (pk_seq pk_fn)))))) (by kernel_rfl) rfl ?_
        refine v_skip (i := 21) rfl (wanted_no rfl rfl rfl) (fun w h => ((h.anymp (.s (.s (.s (.z))))).anymp (.s (.s (.z))))) rfl (pk_seq (pk_blk (pk_seq (pk_loop (pk_blk (pk_seq pk_fn)))))) (by kernel_rfl) rfl ?_
        refine v_skip (i := 22) rfl (wanted_no rfl rfl rfl) (fun w h => ((h.anymp (.s (.s (.s (.z))))).anymp (.s (.s (.z))))) rfl (pk_seq (pk_blk (pk_seq (pk_loop (pk_blk (pk_seq pk_fn)))))) (by kernel_rfl) rfl ?_
        refine v_skip (i := 23) rfl (wanted_no rfl rfl rfl) (fun w h => ((h.anymp (.s (.s (.s (.z))))).anymp (.s (.s (.z))))) rfl (pk_seq (pk_blk (pk_seq (pk_loop (pk_blk (pk_seq pk_fn)))))) (by kernel_rfl) rfl ?_
        refine v_skip (i := 24) rfl (wanted_no rfl rfl rfl) (fun w h => ((h.anymp (.s (.s (.s (.z))))).anymp (.s (.s (.z))))) rfl (pk_seq (pk_blk (pk_seq (pk_loop (pk_blk (pk_seq pk_fn)))))) (by kernel_rfl) rfl ?_
        refine v_skip (i := 26) rfl (wanted_no rfl rfl rfl) (fun w h => ((h.anymp (.s (.s (.s (.z))))).anymp (.s (.s (.z))))) rfl (pk_seq (pk_blk (pk_seq (pk_loop (pk_blk (pk_seq pk_fn)))))) (by kernel_rfl) rfl ?_
        refine v_skip (i := 27) rfl (wanted_no rfl rfl rfl) (fun w h => ((h.anymp (.s (.s (.s (.z))))).anymp (.s (.s (.z))))) rfl (pk_seq (pk_blk (pk_seq (pk_loop (pk_blk (pk_seq pk_fn)))))) (by kernel_rfl) rfl ?_
        refine v_skip (i := 25) rfl (wanted_no rfl rfl rfl) (fun w h => ((h.anymp (.s (.s (.s (.z))))).anymp (.s (.s (.z))))) rfl (pk_seq (pk_blk (pk_seq (pk_loop (pk_blk (pk_seq pk_fn)))))) (by kernel_rfl) rfl ?_
        refine v_skip (i := 28) rfl (wanted_no rfl rfl rfl) (fun w h => ((h.anymp (.s (.s (.s (.z))))).anymp (.s (.s (.z))))) rfl (pk_seq (pk_blk (pk_seq (pk_loop (pk_blk (pk_seq pk_fn)))))) (by kernel_rfl) rfl ?_
        refine v_skip (i := 29) rfl (wanted_no rfl rfl rfl) (fun w h => ((h.anymp (.s (.s (.s (.z))))).anymp (.s (.s (.z))))) rfl (pk_seq (pk_blk (pk_seq (pk_loop (pk_blk (pk_seq pk_fn)))))) (by kernel_rfl) rfl ?_
        refine v_take (i := 30) rfl wanted_none (y_pick_t rfl rfl) (fun w h => ((h.anymp (.s (.s (.s (.z))))).anymp (.s (.s (.z))))) (fun w h => h) rfl (pk_seq (pk_blk (pk_seq (pk_loop (pk_blk (pk_seq pk_fn)))))) (by kernel_rfl) rfl ?_
        refine v_take (i := 31) rfl wanted_none (y_move rfl) (fun w h => ((h.anymp (.s (.s (.s (.z))))).anymp (.s (.s (.z))))) (fun w h => h) rfl (pk_seq (pk_blk (pk_seq (pk_loop (pk_blk (pk_seq pk_fn)))))) (by kernel_rfl) rfl ?_
        refine v_skip (i := 32) rfl (wanted_no rfl rfl rfl) (fun w h => ((h.anymp (.s (.s (.s (.z))))).anymp (.s (.s (.z))))) rfl (pk_seq (pk_blk (pk_seq (pk_loop (pk_blk (pk_seq pk_fn)))))) (by kernel_rfl) rfl ?_
        refine v_skip (i := 33) rfl (wanted_no rfl rfl rfl) (fun w h => ((h.anymp (.s (.s (.s (.z))))).anymp (.s (.s (.z))))) rfl (pk_seq (pk_blk (pk_seq (pk_loop (pk_blk (pk_seq pk_fn)))))) (by kernel_rfl) rfl ?_
        refine v_skip (i := 34) rfl (wanted_no rfl rfl rfl) (fun w h => ((h.anymp (.s (.s (.s (.z))))).anymp (.s (.s (.z))))) rfl (pk_seq (pk_blk (pk_seq (pk_loop (pk_blk (pk_seq pk_fn)))))) (by kernel_rfl) rfl ?_
        refine v_skip (i := 35) rfl (wanted_no rfl rfl rfl) (fun w h => ((h.anymp (.s (.s (.s (.z))))).anymp (.s (.s (.z))))) rfl (pk_seq (pk_blk (pk_seq (pk_loop (pk_blk (pk_seq pk_fn)))))) (by kernel_rfl) rfl ?_
        refine v_skip (i := 36) rfl (wanted_no rfl rfl rfl) (fun w h => ((h.anymp (.s (.s (.s (.z))))).anymp (.s (.s (.z))))) rfl (pk_seq (pk_blk (pk_seq (pk_loop (pk_blk (pk_seq pk_fn)))))) (by kernel_rfl) rfl ?_
        refine v_skip (i := 37) rfl (wanted_no rfl rfl rfl) (fun w h => ((h.anymp (.s (.s (.s (.z))))).anymp (.s (.s (.z))))) rfl (pk_seq (pk_blk (pk_seq (pk_loop (pk_blk (pk_seq pk_fn)))))) (by kernel_rfl) rfl ?_
        refine v_skip (i := 38) rfl (wanted_no rfl rfl rfl) (fun w h => ((h.anymp (.s (.s (.s (.z))))).anymp (.s (.s (.z))))) rfl (pk_seq (pk_blk (pk_seq (pk_loop (pk_blk (pk_seq pk_fn)))))) (by kernel_rfl) rfl ?_
        refine v_skip (i := 39) rfl (wanted_no rfl rfl rfl) (fun w h => ((h.anymp (.s (.s (.s (.z))))).anymp (.s (.s (.z))))) rfl (pk_seq (pk_blk (pk_seq (pk_loop (pk_blk (pk_seq pk_fn)))))) (by kernel_rfl) rfl ?_
        refine v_skip (i := 40) rfl (wanted_no rfl rfl rfl) (fun w h => ((h.anymp (.s (.s (.s (.z))))).anymp (.s (.s (.z))))) rfl (pk_seq (pk_blk (pk_seq (pk_loop (pk_blk (pk_seq pk_fn)))))) (by kernel_rfl) rfl ?_
        refine v_take (i := 41) rfl wanted_none (y_pick_t rfl rfl) (fun w h => ((h.anymp (.s (.s (.s (.z))))).anymp (.s (.s (.z))))) (fun w h => h) rfl (pk_seq (pk_blk (pk_seq (pk_loop (pk_blk (pk_seq pk_fn)))))) (by kernel_rfl) rfl ?_
        refine v_done (by kernel_rfl) ?_
        refine e_seq ?_
        refine w_cond_t rfl ?_
        refine w_seq ?_
        refine w_region ?_
        refine o_y (y_assign rfl) rfl rfl ?_
        refine o_y (y_assign rfl) rfl rfl ?_
        refine wl_nil ?_
        refine e_seq ?_
        refine w_ret ?_
        refine e_blk_ret ?_
        refine e_seq_ret ?_
        refine e_loop_ret ?_
        refine e_blk_ret ?_
        refine e_seq_ret ?_
        refine e_ret (ts := [4, 5]) rfl rfl rfl (fun w hw => ?_)
        have hno : ¬ HeldOk (l.map (·.e)) hs := fun H => by
          obtain ⟨q1, ⟨e, q2, q3⟩, q4, q5, q6⟩ := H i hi
          rw [lk_some hI8 hI9 h15_10] at q2; rw [← Option.some.inj q2] at q3; exact h16_11 q3
        exact ⟨⟨none, fun _ => hno, nofun⟩, rfl, hw.base, ((hw.weak (List.nil_sublist _) (fun s hs => hs)).rall0).toNews⟩
       ·skip
        refine v_take (i := 12) rfl wanted_none (y_pick_f rfl rfl) (fun w h => ((h.anymp (.s (.s (.s (.z))))).anymp (.s (.s (.z))))) (fun w h => h) rfl (pk_seq (pk_blk (pk_seq (pk_loop (pk_blk (pk_seq pk_fn)))))) (by kernel_rfl) rfl ?_
        refine v_take (i := 13) rfl wanted_none (y_move rfl) (fun w h => ((h.anymp (.s (.s (.s (.z))))).anymp (.s (.s (.z))))) (fun w h => h) rfl (pk_seq (pk_blk (pk_seq (pk_loop (pk_blk (pk_seq pk_fn)))))) (by kernel_rfl) rfl ?_
        refine v_take (i := 14) rfl (wanted_yes rfl rfl) (y_field fa_42_1 rfl) (fun w h => ((h.anymp (.s (.s (.s (.z))))).anymp (.s (.s (.z))))) (fun w h => h) rfl (pk_seq (pk_blk (pk_seq (pk_loop (pk_blk (pk_seq pk_fn)))))) (by kernel_rfl) rfl ?_
        refine v_take (i := 15) rfl (wanted_yes rfl rfl) (y_loadrs 1 ty_28 rfl rfl rfl rfl) (fun w h => ((h.anymp (.s (.s (.s (.z))))).anymp (.s (.s (.z))))) (fun w h => h) rfl (pk_seq (pk_blk (pk_seq (pk_loop (pk_blk (pk_seq pk_fn)))))) (by kernel_rfl) rfl ?_
        refine v_one (i := 16) rfl (by kernel_rfl) rfl ?_
        refine wl_gyes rfl rfl ?_
        refine o_callp rfl ent_52 (c_addr_Check _ hih.2) rfl ?_
        refine wl_nil ?_
        refine ev_one (fun w h => ((h.anymp (.s (.s (.s (.z))))).anymp (.s (.s (.z))))) ?_
        refine v_take (i := 17) rfl (wanted_yes rfl rfl) (y_neq rfl rfl) (fun w h => ((h.anymp (.s (.s (.s (.z))))).anymp (.s (.s (.z))))) (fun w h => h) rfl (pk_seq (pk_blk (pk_seq (pk_loop (pk_blk (pk_seq pk_fn)))))) (by kernel_rfl) rfl ?_
        refine wv_splitp (t := 90) rfl (fun h16_17 => ?_) (fun h16_17 => ?_)
        ·skip
         refine v_take (i := 18) rfl wanted_none (y_pick_f rfl rfl) (fun w h => ((h.anymp (.s (.s (.s (.z))))).anymp (.s (.s (.z))))) (fun w h => h) rfl (pk_seq (pk_blk (pk_seq (pk_loop (pk_blk (pk_seq pk_fn)))))) (by kernel_rfl) rfl ?_
         refine v_take (i := 19) rfl wanted_none (y_move rfl) (fun w h => ((h.anymp (.s (.s (.s (.z))))).anymp (.s (.s (.z))))) (fun w h => h) rfl (pk_seq (pk_blk (pk_seq (pk_loop (pk_blk (pk_seq pk_fn)))))) (by kernel_rfl) rfl ?_
         refine v_skip (i := 20) rfl (wanted_no rfl rfl rfl) (fun w h => ((h.anymp (.s (.s (.s (.z))))).anymp (.s (.s (.z))))) rfl (pk_seq (pk_blk (pk_seq (pk_loop (pk_blk (pk_seq pk_fn)))))) (by kernel_rfl) rfl ?_
         refine v_skip (i := 21) rfl (wanted_no rfl rfl rfl) (fun w h => ((h.anymp (.s (.s (.s (.z))))).anymp (.s (.s (.z))))) rfl (pk_seq (pk_blk (pk_seq (pk_loop (pk_blk (pk_seq pk_fn)))))) (by kernel_rfl) rfl ?_
         refine v_skip (i := 22) rfl (wanted_no rfl rfl rfl) (fun w h => ((h.anymp (.s (.s (.s (.z))))).anymp (.s (.s (.z))))) rfl (pk_seq (pk_blk (pk_seq (pk_loop (pk_blk (pk_seq pk_fn)))))) (by kernel_rfl) rfl ?_
         refine v_skip (i := 23) rfl (wanted_no rfl rfl rfl) (fun w h => ((h.anymp (.s (.s (.s (.z))))).anymp (.s (.s (.z))))) rfl (pk_seq (pk_blk (pk_seq (pk_loop (pk_blk (pk_seq pk_fn)))))) (by kernel_rfl) rfl ?_
         refine v_skip (i := 24) rfl (wanted_no rfl rfl rfl) (fun w h => ((h.anymp (.s (.s (.s (.z))))).anymp (.s (.s (.z))))) rfl (pk_seq (pk_blk (pk_seq (pk_loop (pk_blk (pk_seq pk_fn)))))) (by kernel_rfl) rfl ?_
         refine v_skip (i := 26) rfl (wanted_no rfl rfl rfl) (fun w h => ((h.anymp (.s (.s (.s (.z))))).anymp (.s (.s (.z))))) rfl (pk_seq (pk_blk (pk_seq (pk_loop (pk_blk (pk_seq pk_fn)))))) (by kernel_rfl) rfl ?_
         refine v_skip (i := 27) rfl (wanted_no rfl rfl rfl) (fun w h => ((h.anymp (.s (.s (.s (.z))))).anymp (.s (.s (.z))))) rfl (pk_seq (pk_blk (pk_seq (pk_loop (pk_blk (pk_seq pk_fn)))))) (by kernel_rfl) rfl ?_
         refine v_skip (i := 25) rfl (wanted_no rfl rfl rfl) (fun w h => ((h.anymp (.s (.s (.s (.z))))).anymp (.s (.s (.z))))) rfl (pk_seq (pk_blk (pk_seq (pk_loop (pk_blk (pk_seq pk_fn)))))) (by kernel_rfl) rfl ?_
         refine v_skip (i := 28) rfl (wanted_no rfl rfl rfl) (fun w h => ((h.anymp (.s (.s (.s (.z))))).anymp (.s (.s (.z))))) rfl (pk_seq (pk_blk (pk_seq (pk_loop (pk_blk (pk_seq pk_fn)))))) (by kernel_rfl) rfl ?_
         refine v_skip (i := 29) rfl (wanted_no rfl rfl rfl) (fun w h => ((h.anymp (.s (.s (.s (.z))))).anymp (.s (.s (.z))))) rfl (pk_seq (pk_blk (pk_seq (pk_loop (pk_blk (pk_seq pk_fn)))))) (by kernel_rfl) rfl ?_
         refine v_take (i := 30) rfl wanted_none (y_pick_t rfl rfl) (fun w h => ((h.anymp (.s (.s (.s (.z))))).anymp (.s (.s (.z))))) (fun w h => h) rfl (pk_seq (pk_blk (pk_seq (pk_loop (pk_blk (pk_seq pk_fn)))))) (by kernel_rfl) rfl ?_
         refine v_take (i := 31) rfl wanted_none (y_move rfl) (fun w h => ((h.anymp (.s (.s (.s (.z))))).anymp (.s (.s (.z))))) (fun w h => h) rfl (pk_seq (pk_blk (pk_seq (pk_loop (pk_blk (pk_seq pk_fn)))))) (by kernel_rfl) rfl ?_
         refine v_skip (i := 32) rfl (wanted_no rfl rfl rfl) (fun w h => ((h.anymp (.s (.s (.s (.z))))).anymp (.s (.s (.z))))) rfl (pk_seq (pk_blk (pk_seq (pk_loop (pk_blk (pk_seq pk_fn)))))) (by kernel_rfl) rfl ?_
         refine v_skip (i := 33) rfl (wanted_no rfl rfl rfl) (fun w h => ((h.anymp (.s (.s (.s (.z))))).anymp (.s (.s (.z))))) rfl (pk_seq (pk_blk (pk_seq (pk_loop (pk_blk (pk_seq pk_fn)))))) (by kernel_rfl) rfl ?_
         refine v_skip (i := 34) rfl (wanted_no rfl rfl rfl) (fun w h => ((h.anymp (.s (.s (.s (.z))))).anymp (.s (.s (.z))))) rfl (pk_seq (pk_blk (pk_seq (pk_loop (pk_blk (pk_seq pk_fn)))))) (by kernel_rfl) rfl ?_
         refine v_skip (i := 35) rfl (wanted_no rfl rfl rfl) (fun w h => ((h.anymp (.s (.s (.s (.z))))).anymp (.s (.s (.z))))) rfl (pk_seq (pk_blk (pk_seq (pk_loop (pk_blk (pk_seq pk_fn)))))) (by kernel_rfl) rfl ?_
         refine v_skip (i := 36) rfl (wanted_no rfl rfl rfl) (fun w h => ((h.anymp (.s (.s (.s (.z))))).anymp (.s (.s (.z))))) rfl (pk_seq (pk_blk (pk_seq (pk_loop (pk_blk (pk_seq pk_fn)))))) (by kernel_rfl) rfl ?_
         refine v_skip (i := 37) rfl (wanted_no rfl rfl rfl) (fun w h => ((h.anymp (.s (.s (.s (.z))))).anymp (.s (.s (.z))))) rfl (pk_seq (pk_blk (pk_seq (pk_loop (pk_blk (pk_seq pk_fn)))))) (by kernel_rfl) rfl ?_
         refine v_skip (i := 38) rfl (wanted_no rfl rfl rfl) (fun w h => ((h.anymp (.s (.s (.s (.z))))).anymp (.s (.s (.z))))) rfl (pk_seq (pk_blk (pk_seq (pk_loop (pk_blk (pk_seq pk_fn)))))) (by kernel_rfl) rfl ?_
         refine v_skip (i := 39) rfl (wanted_no rfl rfl rfl) (fun w h => ((h.anymp (.s (.s (.s (.z))))).anymp (.s (.s (.z))))) rfl (pk_seq (pk_blk (pk_seq (pk_loop (pk_blk (pk_seq pk_fn)))))) (by kernel_rfl) rfl ?_
         refine v_skip (i := 40) rfl (wanted_no rfl rfl rfl) (fun w h => ((h.anymp (.s (.s (.s (.z))))).anymp (.s (.s (.z))))) rfl (pk_seq (pk_blk (pk_seq (pk_loop (pk_blk (pk_seq pk_fn)))))) (by kernel_rfl) rfl ?_
         refine v_take (i := 41) rfl wanted_none (y_pick_t rfl rfl) (fun w h => ((h.anymp (.s (.s (.s (.z))))).anymp (.s (.s (.z))))) (fun w h => h) rfl (pk_seq (pk_blk (pk_seq (pk_loop (pk_blk (pk_seq pk_fn)))))) (by kernel_rfl) rfl ?_
         refine v_done (by kernel_rfl) ?_
         refine e_seq ?_
         refine w_cond_t rfl ?_
         refine w_seq ?_
         refine w_region ?_
         refine o_y (y_assign rfl) rfl rfl ?_
         refine o_y (y_assign rfl) rfl rfl ?_
         refine wl_nil ?_
         refine e_seq ?_
         refine w_ret ?_
         refine e_blk_ret ?_
         refine e_seq_ret ?_
         refine e_loop_ret ?_
         refine e_blk_ret ?_
         refine e_seq_ret ?_
         refine e_ret (ts := [4, 5]) rfl rfl rfl (fun w hw => ?_)
         have hno : ¬ HeldOk (l.map (·.e)) hs := fun H => by
           obtain ⟨q1, ⟨e, q2, q3⟩, q4, q5, q6⟩ := H i hi
           exact h16_17 q4
         exact ⟨⟨none, fun _ => hno, nofun⟩, rfl, hw.base, ((hw.weak (List.nil_sublist _) (fun s hs => hs)).rall0).toNews⟩
        ·skip
         refine v_take (i := 18) rfl wanted_none (y_pick_f rfl rfl) (fun w h => ((h.anymp (.s (.s (.s (.z))))).anymp (.s (.s (.z))))) (fun w h => h) rfl (pk_seq (pk_blk (pk_seq (pk_loop (pk_blk (pk_seq pk_fn)))))) (by kernel_rfl) rfl ?_
         refine v_take (i := 19) rfl wanted_none (y_move rfl) (fun w h => ((h.anymp (.s (.s (.s (.z))))).anymp (.s (.s (.z))))) (fun w h => h) rfl (pk_seq (pk_blk (pk_seq (pk_loop (pk_blk (pk_seq pk_fn)))))) (by kernel_rfl) rfl ?_
         refine v_take (i := 20) rfl (wanted_yes rfl rfl) (y_move rfl) (fun w h => ((h.anymp (.s (.s (.s (.z))))).anymp (.s (.s (.z))))) (fun w h => h) rfl (pk_seq (pk_blk (pk_seq (pk_loop (pk_blk (pk_seq pk_fn)))))) (by kernel_rfl) rfl ?_
         refine v_take (i := 21) rfl (wanted_yes rfl rfl) (y_nilCheck rfl) (fun w h => ((h.anymp (.s (.s (.s (.z))))).anymp (.s (.s (.z))))) (fun w h => h) rfl (pk_seq (pk_blk (pk_seq (pk_loop (pk_blk (pk_seq pk_fn)))))) (by kernel_rfl) rfl ?_
         refine v_take (i := 22) rfl (wanted_yes rfl rfl) (y_field fa_91_2 rfl) (fun w h => ((h.anymp (.s (.s (.s (.z))))).anymp (.s (.s (.z))))) (fun w h => h) rfl (pk_seq (pk_blk (pk_seq (pk_loop (pk_blk (pk_seq pk_fn)))))) (by kernel_rfl) rfl ?_
         refine v_take (i := 23) rfl (wanted_yes rfl rfl) (y_loadr 6 ty_87 rfl rfl rfl) (fun w h => ((h.anymp (.s (.s (.s (.z))))).anymp (.s (.s (.z))))) (fun w h => h) rfl (pk_seq (pk_blk (pk_seq (pk_loop (pk_blk (pk_seq pk_fn)))))) (by kernel_rfl) rfl ?_
         refine v_take (i := 24) rfl (wanted_yes rfl rfl) (y_loadrs 0 ty_47 rfl rfl rfl rfl) (fun w h => ((h.anymp (.s (.s (.s (.z))))).anymp (.s (.s (.z))))) (fun w h => h) rfl (pk_seq (pk_blk (pk_seq (pk_loop (pk_blk (pk_seq pk_fn)))))) (by kernel_rfl) rfl ?_
         refine v_take (i := 26) rfl (wanted_yes rfl rfl) (y_field fa_42_1 rfl) (fun w h => ((h.anymp (.s (.s (.s (.z))))).anymp (.s (.s (.z))))) (fun w h => h) rfl (pk_seq (pk_blk (pk_seq (pk_loop (pk_blk (pk_seq pk_fn)))))) (by kernel_rfl) rfl ?_
         refine v_take (i := 27) rfl (wanted_yes rfl rfl) (y_loadrs 1 ty_28 rfl rfl rfl rfl) (fun w h => ((h.anymp (.s (.s (.s (.z))))).anymp (.s (.s (.z))))) (fun w h => h) rfl (pk_seq (pk_blk (pk_seq (pk_loop (pk_blk (pk_seq pk_fn)))))) (by kernel_rfl) rfl ?_
         refine v_one (i := 25) rfl (by kernel_rfl) rfl ?_
         refine wl_gyes rfl rfl ?_
         refine o_callp rfl ent_48 (c_entry_Key _ _ _ _ _ (by have := hbf.h; omega)) rfl ?_
         refine wl_nil ?_
         refine ev_one (fun w h => ((h.anymp (.s (.s (.s (.z))))).anymp (.s (.s (.z))))) ?_
         refine wv_as (t := 98) (.string (ba (foldN (hs.getD i hd0).host))) rfl (by rw [hfm.2]) ?_
         refine v_one (i := 28) rfl (by kernel_rfl) rfl ?_
         refine wl_gyes rfl rfl ?_
         refine o_callu rfl ent_53 rfl (c_put_d dm r2 (foldN (hs.getD i hd0).host) (hs.getD i hd0).ad) (fun o => (.s (.s (.s (.z))))) (List.mem_of_getElem? (i := 3) rfl) (fun s hs => nomatch hs) (fun o17 => ?_)
         refine wl_nil ?_
         refine ev_one (fun w h => ((h.anymp (.s (.s (.s (.z))))).anymp (.s (.s (.z))))) ?_
         refine wv_splitb (t := 101) rfl (fun h16_28 => ?_) (fun h16_28 => ?_)
         ·skip
          refine v_take (i := 29) rfl (wanted_yes rfl rfl) (y_not rfl) (fun w h => ((h.anymp (.s (.s (.s (.z))))).anymp (.s (.s (.z))))) (fun w h => h) rfl (pk_seq (pk_blk (pk_seq (pk_loop (pk_blk (pk_seq pk_fn)))))) (by kernel_rfl) rfl ?_
          refine v_take (i := 30) rfl wanted_none (y_pick_f rfl rfl) (fun w h => ((h.anymp (.s (.s (.s (.z))))).anymp (.s (.s (.z))))) (fun w h => h) rfl (pk_seq (pk_blk (pk_seq (pk_loop (pk_blk (pk_seq pk_fn)))))) (by kernel_rfl) rfl ?_
          refine v_take (i := 31) rfl wanted_none (y_move rfl) (fun w h => ((h.anymp (.s (.s (.s (.z))))).anymp (.s (.s (.z))))) (fun w h => h) rfl (pk_seq (pk_blk (pk_seq (pk_loop (pk_blk (pk_seq pk_fn)))))) (by kernel_rfl) rfl ?_
          refine v_take (i := 32) rfl (wanted_yes rfl rfl) (y_move rfl) (fun w h => ((h.anymp (.s (.s (.s (.z))))).anymp (.s (.s (.z))))) (fun w h => h) rfl (pk_seq (pk_blk (pk_seq (pk_loop (pk_blk (pk_seq pk_fn)))))) (by kernel_rfl) rfl ?_
          refine v_take (i := 33) rfl (wanted_yes rfl rfl) (y_nilCheck rfl) (fun w h => ((h.anymp (.s (.s (.s (.z))))).anymp (.s (.s (.z))))) (fun w h => h) rfl (pk_seq (pk_blk (pk_seq (pk_loop (pk_blk (pk_seq pk_fn)))))) (by kernel_rfl) rfl ?_
          refine v_take (i := 34) rfl (wanted_yes rfl rfl) (y_field fa_91_3 rfl) (fun w h => ((h.anymp (.s (.s (.s (.z))))).anymp (.s (.s (.z))))) (fun w h => h) rfl (pk_seq (pk_blk (pk_seq (pk_loop (pk_blk (pk_seq pk_fn)))))) (by kernel_rfl) rfl ?_
          refine v_take (i := 35) rfl (wanted_yes rfl rfl) (y_loadr 6 ty_89 rfl rfl rfl) (fun w h => ((h.anymp (.s (.s (.s (.z))))).anymp (.s (.s (.z))))) (fun w h => h) rfl (pk_seq (pk_blk (pk_seq (pk_loop (pk_blk (pk_seq pk_fn)))))) (by kernel_rfl) rfl ?_
          refine v_take (i := 36) rfl (wanted_yes rfl rfl) (y_field fa_42_1 rfl) (fun w h => ((h.anymp (.s (.s (.s (.z))))).anymp (.s (.s (.z))))) (fun w h => h) rfl (pk_seq (pk_blk (pk_seq (pk_loop (pk_blk (pk_seq pk_fn)))))) (by kernel_rfl) rfl ?_
          refine v_take (i := 37) rfl (wanted_yes rfl rfl) (y_loadrs 1 ty_28 rfl rfl rfl rfl) (fun w h => ((h.anymp (.s (.s (.s (.z))))).anymp (.s (.s (.z))))) (fun w h => h) rfl (pk_seq (pk_blk (pk_seq (pk_loop (pk_blk (pk_seq pk_fn)))))) (by kernel_rfl) rfl ?_
          refine v_take (i := 38) rfl (wanted_yes rfl rfl) (y_loadrs 0 ty_47 rfl rfl rfl rfl) (fun w h => ((h.anymp (.s (.s (.s (.z))))).anymp (.s (.s (.z))))) (fun w h => h) rfl (pk_seq (pk_blk (pk_seq (pk_loop (pk_blk (pk_seq pk_fn)))))) (by kernel_rfl) rfl ?_
          refine v_one (i := 39) rfl (by kernel_rfl) rfl ?_
          refine wl_gyes rfl rfl ?_
          refine o_callu rfl ent_54 rfl (c_put_a am r3 (hs.getD i hd0).ad ((lkp hm (foldN (hs.getD i hd0).host)).getD le0)) (fun o => (.s (.s (.z)))) (List.mem_of_getElem? (i := 2) rfl) (fun s hs => nomatch hs) (fun o18 => ?_)
          refine wl_nil ?_
          refine ev_one (fun w h => ((h.anymp (.s (.s (.s (.z))))).anymp (.s (.s (.z))))) ?_
          refine wv_splitb (t := 112) rfl (fun h16_39 => ?_) (fun h16_39 => ?_)
          ·skip
           refine v_take (i := 40) rfl (wanted_yes rfl rfl) (y_not rfl) (fun w h => ((h.anymp (.s (.s (.s (.z))))).anymp (.s (.s (.z))))) (fun w h => h) rfl (pk_seq (pk_blk (pk_seq (pk_loop (pk_blk (pk_seq pk_fn)))))) (by kernel_rfl) rfl ?_
           refine v_take (i := 41) rfl wanted_none (y_pick_f rfl rfl) (fun w h => ((h.anymp (.s (.s (.s (.z))))).anymp (.s (.s (.z))))) (fun w h => h) rfl (pk_seq (pk_blk (pk_seq (pk_loop (pk_blk (pk_seq pk_fn)))))) (by kernel_rfl) rfl ?_
           refine v_done (by kernel_rfl) ?_
           refine e_seq ?_
           refine w_cond_f rfl ?_
           refine w_skip ?_
           refine e_blk ?_
           refine e_seq ?_
           refine w_region ?_
           refine o_y (y_addi rfl rfl (by omega) (by omega)) rfl rfl ?_
           refine o_y (y_move rfl) rfl rfl ?_
           refine wl_nil ?_
           have hps : ∀ p ∈ hs.take i, (lkp hm (foldN p.host)).isSome = true := fun p hp => by
             obtain ⟨e, he, _⟩ := held_pre hI.2.1 hI.1 p hp
             rw [← lk_E hI8 hI9] at he
             cases hz : lkp hm (foldN p.host) with
             | none => rw [hz] at he; cases he
             | some y => rfl
           have hokh : okH (l.map (·.e)) (hs.take i) (hs.getD i hd0) := ⟨by omega, ⟨_, lk_some hI8 hI9 h15_10, by omega⟩, by omega, dm_no hI.2.2.1 (by simpa using h16_28), am_no hI.2.2.2 hps (by simpa using h16_39)⟩
           refine e_back ((i + 1, putF dm (foldN (hs.getD i hd0).host) (hs.getD i hd0).ad, putF am (hs.getD i hd0).ad ((lkp hm (foldN (hs.getD i hd0).host)).getD le0))) ?_ ?_ ⟨rfl, trivial⟩ (by repeat (first | exact trivial | refine ⟨rfl, ?_⟩)) (fun w h => h.weak (.cons _ (.cons _ (List.Sublist.refl _))) (fun s hs => hs))
           ·refine ⟨by show i + 1 ≤ _; omega, held_step hI.2.1 hokh, ?_, ?_⟩
            · show DmOk _ (hs.take (i + 1))
              rw [take_getD hs hd0 i hi]; exact dm_put hI.2.2.1 _
            · show AmOk0 _ hm (hs.take (i + 1))
              rw [take_getD hs hd0 i hi]; exact am_put hI.2.2.2 hps _ h15_10
           ·show hs.length - (i + 1) < hs.length - i
            omega
          ·skip
           refine v_take (i := 40) rfl (wanted_yes rfl rfl) (y_not rfl) (fun w h => ((h.anymp (.s (.s (.s (.z))))).anymp (.s (.s (.z))))) (fun w h => h) rfl (pk_seq (pk_blk (pk_seq (pk_loop (pk_blk (pk_seq pk_fn)))))) (by kernel_rfl) rfl ?_
           refine v_take (i := 41) rfl wanted_none (y_pick_f rfl rfl) (fun w h => ((h.anymp (.s (.s (.s (.z))))).anymp (.s (.s (.z))))) (fun w h => h) rfl (pk_seq (pk_blk (pk_seq (pk_loop (pk_blk (pk_seq pk_fn)))))) (by kernel_rfl) rfl ?_
           refine v_done (by kernel_rfl) ?_
           refine e_seq ?_
           refine w_cond_t rfl ?_
           refine w_seq ?_
           refine w_region ?_
           refine o_y (y_assign rfl) rfl rfl ?_
           refine o_y (y_assign rfl) rfl rfl ?_
           refine wl_nil ?_
           refine e_seq ?_
           refine w_ret ?_
           refine e_blk_ret ?_
           refine e_seq_ret ?_
           refine e_loop_ret ?_
           refine e_blk_ret ?_
           refine e_seq_ret ?_
           refine e_ret (ts := [4, 5]) rfl rfl rfl (fun w hw => ?_)
           have hno : ¬ HeldOk (l.map (·.e)) hs := fun H => by
             obtain ⟨q1, ⟨e, q2, q3⟩, q4, q5, q6⟩ := H i hi
             obtain ⟨p, hp, e9⟩ := am_yes hI.2.2.2 (by simpa using h16_39); exact q6 p hp e9
           exact ⟨⟨none, fun _ => hno, nofun⟩, rfl, hw.base, ((hw.weak (List.nil_sublist _) (fun s hs => hs)).rall0).toNews⟩
         ·skip
          refine v_take (i := 29) rfl (wanted_yes rfl rfl) (y_not rfl) (fun w h => ((h.anymp (.s (.s (.s (.z))))).anymp (.s (.s (.z))))) (fun w h => h) rfl (pk_seq (pk_blk (pk_seq (pk_loop (pk_blk (pk_seq pk_fn)))))) (by kernel_rfl) rfl ?_
          refine v_take (i := 30) rfl wanted_none (y_pick_f rfl rfl) (fun w h => ((h.anymp (.s (.s (.s (.z))))).anymp (.s (.s (.z))))) (fun w h => h) rfl (pk_seq (pk_blk (pk_seq (pk_loop (pk_blk (pk_seq pk_fn)))))) (by kernel_rfl) rfl ?_
          refine v_take (i := 31) rfl wanted_none (y_move rfl) (fun w h => ((h.anymp (.s (.s (.s (.z))))).anymp (.s (.s (.z))))) (fun w h => h) rfl (pk_seq (pk_blk (pk_seq (pk_loop (pk_blk (pk_seq pk_fn)))))) (by kernel_rfl) rfl ?_
          refine v_skip (i := 32) rfl (wanted_no rfl rfl rfl) (fun w h => ((h.anymp (.s (.s (.s (.z))))).anymp (.s (.s (.z))))) rfl (pk_seq (pk_blk (pk_seq (pk_loop (pk_blk (pk_seq pk_fn)))))) (by kernel_rfl) rfl ?_
          refine v_skip (i := 33) rfl (wanted_no rfl rfl rfl) (fun w h => ((h.anymp (.s (.s (.s (.z))))).anymp (.s (.s (.z))))) rfl (pk_seq (pk_blk (pk_seq (pk_loop (pk_blk (pk_seq pk_fn)))))) (by kernel_rfl) rfl ?_
          refine v_skip (i := 34) rfl (wanted_no rfl rfl rfl) (fun w h => ((h.anymp (.s (.s (.s (.z))))).anymp (.s (.s (.z))))) rfl (pk_seq (pk_blk (pk_seq (pk_loop (pk_blk (pk_seq pk_fn)))))) (by kernel_rfl) rfl ?_
          refine v_skip (i := 35) rfl (wanted_no rfl rfl rfl) (fun w h => ((h.anymp (.s (.s (.s (.z))))).anymp (.s (.s (.z))))) rfl (pk_seq (pk_blk (pk_seq (pk_loop (pk_blk (pk_seq pk_fn)))))) (by kernel_rfl) rfl ?_
          refine v_skip (i := 36) rfl (wanted_no rfl rfl rfl) (fun w h => ((h.anymp (.s (.s (.s (.z))))).anymp (.s (.s (.z))))) rfl (pk_seq (pk_blk (pk_seq (pk_loop (pk_blk (pk_seq pk_fn)))))) (by kernel_rfl) rfl ?_
          refine v_skip (i := 37) rfl (wanted_no rfl rfl rfl) (fun w h => ((h.anymp (.s (.s (.s (.z))))).anymp (.s (.s (.z))))) rfl (pk_seq (pk_blk (pk_seq (pk_loop (pk_blk (pk_seq pk_fn)))))) (by kernel_rfl) rfl ?_
          refine v_skip (i := 38) rfl (wanted_no rfl rfl rfl) (fun w h => ((h.anymp (.s (.s (.s (.z))))).anymp (.s (.s (.z))))) rfl (pk_seq (pk_blk (pk_seq (pk_loop (pk_blk (pk_seq pk_fn)))))) (by kernel_rfl) rfl ?_
          refine v_skip (i := 39) rfl (wanted_no rfl rfl rfl) (fun w h => ((h.anymp (.s (.s (.s (.z))))).anymp (.s (.s (.z))))) rfl (pk_seq (pk_blk (pk_seq (pk_loop (pk_blk (pk_seq pk_fn)))))) (by kernel_rfl) rfl ?_
          refine v_skip (i := 40) rfl (wanted_no rfl rfl rfl) (fun w h => ((h.anymp (.s (.s (.s (.z))))).anymp (.s (.s (.z))))) rfl (pk_seq (pk_blk (pk_seq (pk_loop (pk_blk (pk_seq pk_fn)))))) (by kernel_rfl) rfl ?_
          refine v_take (i := 41) rfl wanted_none (y_pick_t rfl rfl) (fun w h => ((h.anymp (.s (.s (.s (.z))))).anymp (.s (.s (.z))))) (fun w h => h) rfl (pk_seq (pk_blk (pk_seq (pk_loop (pk_blk (pk_seq pk_fn)))))) (by kernel_rfl) rfl ?_
          refine v_done (by kernel_rfl) ?_
          refine e_seq ?_
          refine w_cond_t rfl ?_
          refine w_seq ?_
          refine w_region ?_
          refine o_y (y_assign rfl) rfl rfl ?_
          refine o_y (y_assign rfl) rfl rfl ?_
          refine wl_nil ?_
          refine e_seq ?_
          refine w_ret ?_
          refine e_blk_ret ?_
          refine e_seq_ret ?_
          refine e_loop_ret ?_
          refine e_blk_ret ?_
          refine e_seq_ret ?_
          refine e_ret (ts := [4, 5]) rfl rfl rfl (fun w hw => ?_)
          have hno : ¬ HeldOk (l.map (·.e)) hs := fun H => by
            obtain ⟨q1, ⟨e, q2, q3⟩, q4, q5, q6⟩ := H i hi
            obtain ⟨p, hp, e9⟩ := dm_yes hI.2.2.1 (by simpa using h16_28); exact q5 p hp e9
          exact ⟨⟨none, fun _ => hno, nofun⟩, rfl, hw.base, ((hw.weak (List.nil_sublist _) (fun s hs => hs)).rall0).toNews⟩
     ·skip
      refine v_one (i := 11) rfl (by kernel_rfl) rfl ?_
      refine o_alloc ty_47 rfl rfl (fun b20 => ?_)
      refine wl_nil ?_
      refine ev_one (fun w h => h.weak (.cons _ (List.Sublist.refl _)) (fun s hs => hs)) ?_
      refine v_one (i := 12) rfl (by kernel_rfl) rfl ?_
      refine o_store ty_47 rfl rfl rfl .z rfl rfl rfl rfl ?_
      refine wl_nil ?_
      refine ev_one (fun w h => h.weak (.cons _ (List.Sublist.refl _)) (fun s hs => hs)) ?_
      refine v_one (i := 13) rfl (by kernel_rfl) rfl ?_
      refine o_y (y_assign rfl) rfl rfl ?_
      refine wl_nil ?_
      refine ev_tail rfl ?_
      refine v_done (by kernel_rfl) ?_
      refine e_seq ?_
      refine w_seq ?_
      refine w_drawVA 42 mixed (fun w h => ((h.anymp (.s (.s (.s (.z))))).anymp (.s (.s (.z))))) ?_
      refine v_take (i := 0) rfl wanted_none (y_move rfl) (fun w h => ((h.anymp (.s (.s (.s (.z))))).anymp (.s (.s (.z))))) (fun w h => h) rfl (pk_seq (pk_blk (pk_seq (pk_loop (pk_blk (pk_seq pk_fn)))))) (by kernel_rfl) rfl ?_
      refine v_take (i := 1) rfl wanted_none (y_not rfl) (fun w h => ((h.anymp (.s (.s (.s (.z))))).anymp (.s (.s (.z))))) (fun w h => h) rfl (pk_seq (pk_blk (pk_seq (pk_loop (pk_blk (pk_seq pk_fn)))))) (by kernel_rfl) rfl ?_
      refine v_take (i := 2) rfl wanted_none (y_move rfl) (fun w h => ((h.anymp (.s (.s (.s (.z))))).anymp (.s (.s (.z))))) (fun w h => h) rfl (pk_seq (pk_blk (pk_seq (pk_loop (pk_blk (pk_seq pk_fn)))))) (by kernel_rfl) rfl ?_
      refine v_skip (i := 3) rfl (wanted_no rfl rfl rfl) (fun w h => ((h.anymp (.s (.s (.s (.z))))).anymp (.s (.s (.z))))) rfl (pk_seq (pk_blk (pk_seq (pk_loop (pk_blk (pk_seq pk_fn)))))) (by kernel_rfl) rfl ?_
      refine v_skip (i := 4) rfl (wanted_no rfl rfl rfl) (fun w h => ((h.anymp (.s (.s (.s (.z))))).anymp (.s (.s (.z))))) rfl (pk_seq (pk_blk (pk_seq (pk_loop (pk_blk (pk_seq pk_fn)))))) (by kernel_rfl) rfl ?_
      refine v_skip (i := 5) rfl (wanted_no rfl rfl rfl) (fun w h => ((h.anymp (.s (.s (.s (.z))))).anymp (.s (.s (.z))))) rfl (pk_seq (pk_blk (pk_seq (pk_loop (pk_blk (pk_seq pk_fn)))))) (by kernel_rfl) rfl ?_
      refine v_skip (i := 6) rfl (wanted_no rfl rfl rfl) (fun w h => ((h.anymp (.s (.s (.s (.z))))).anymp (.s (.s (.z))))) rfl (pk_seq (pk_blk (pk_seq (pk_loop (pk_blk (pk_seq pk_fn)))))) (by kernel_rfl) rfl ?_
      refine v_take (i := 7) rfl wanted_none (y_pick_t rfl rfl) (fun w h => ((h.anymp (.s (.s (.s (.z))))).anymp (.s (.s (.z))))) (fun w h => h) rfl (pk_seq (pk_blk (pk_seq (pk_loop (pk_blk (pk_seq pk_fn)))))) (by kernel_rfl) rfl ?_
      refine v_take (i := 8) rfl wanted_none (y_move rfl) (fun w h => ((h.anymp (.s (.s (.s (.z))))).anymp (.s (.s (.z))))) (fun w h => h) rfl (pk_seq (pk_blk (pk_seq (pk_loop (pk_blk (pk_seq pk_fn)))))) (by kernel_rfl) rfl ?_
      refine v_skip (i := 9) rfl (wanted_no rfl rfl rfl) (fun w h => ((h.anymp (.s (.s (.s (.z))))).anymp (.s (.s (.z))))) rfl (pk_seq (pk_blk (pk_seq (pk_loop (pk_blk (pk_seq pk_fn)))))) (by kernel_rfl) rfl ?_
      refine v_skip (i := 10) rfl (wanted_no rfl rfl rfl) (fun w h => ((h.anymp (.s (.s (.s (.z))))).anymp (.s (.s (.z))))) rfl (pk_seq (pk_blk (pk_seq (pk_loop (pk_blk (pk_seq pk_fn)))))) (by kernel_rfl) rfl ?_
      refine v_skip (i := 11) rfl (wanted_no rfl rfl rfl) (fun w h => ((h.anymp (.s (.s (.s (.z))))).anymp (.s (.s (.z))))) rfl (pk_seq (pk_blk (pk_seq (pk_loop (pk_blk (pk_seq pk_fn)))))) (by kernel_rfl) rfl ?_
      refine v_take (i := 12) rfl wanted_none (y_pick_t rfl rfl) (fun w h => ((h.anymp (.s (.s (.s (.z))))).anymp (.s (.s (.z))))) (fun w h => h) rfl (pk_seq (pk_blk (pk_seq (pk_loop (pk_blk (pk_seq pk_fn)))))) (by kernel_rfl) rfl ?_
      refine v_take (i := 13) rfl wanted_none (y_move rfl) (fun w h => ((h.anymp (.s (.s (.s (.z))))).anymp (.s (.s (.z))))) (fun w h => h) rfl (pk_seq (pk_blk (pk_seq (pk_loop (pk_blk (pk_seq pk_fn)))))) (by kernel_rfl) rfl ?_
      refine v_skip (i := 14) rfl (wanted_no rfl rfl rfl) (fun w h => ((h.anymp (.s (.s (.s (.z))))).anymp (.s (.s (.z))))) rfl (pk_seq (pk_blk (pk_seq (pk_loop (pk_blk (pk_seq pk_fn)))))) (by kernel_rfl) rfl ?_
      refine v_skip (i := 15) rfl (wanted_no rfl rfl rfl) (fun w h => ((h.anymp (.s (.s (.s (.z))))).anymp (.s (.s (.z))))) rfl (pk_seq (pk_blk (pk_seq (pk_loop (pk_blk (pk_seq pk_fn)))))) (by kernel_rfl) rfl ?_
      refine v_skip (i := 16) rfl (wanted_no rfl rfl rfl) (fun w h => ((h.anymp (.s (.s (.s (.z))))).anymp (.s (.s (.z))))) rfl (pk_seq (pk_blk (pk_seq (pk_loop (pk_blk (pk_seq pk_fn)))))) (by kernel_rfl) rfl ?_
      refine v_skip (i := 17) rfl (wanted_no rfl rfl rfl) (fun w h => ((h.anymp (.s (.s (.s (.z))))).anymp (.s (.s (.z))))) rfl (pk_seq (pk_blk (pk_seq (pk_loop (pk_blk (pk_seq pk_fn)))))) (by kernel_rfl) rfl ?_
      refine v_take (i := 18) rfl wanted_none (y_pick_t rfl rfl) (fun w h => ((h.anymp (.s (.s (.s (.z))))).anymp (.s (.s (.z))))) (fun w h => h) rfl (pk_seq (pk_blk (pk_seq (pk_loop (pk_blk (pk_seq pk_fn)))))) (by kernel_rfl) rfl ?_
      refine v_take (i := 19) rfl wanted_none (y_move rfl) (fun w h => ((h.anymp (.s (.s (.s (.z))))).anymp (.s (.s (.z))))) (fun w h => h) rfl (pk_seq (pk_blk (pk_seq (pk_loop (pk_blk (pk_seq pk_fn)))))) (by kernel_rfl) rfl ?_
      refine v_skip (i := 20) rfl (wanted_no rfl rfl rfl) (fun w h => ((h.anymp (.s (.s (.s (.z))))).anymp (.s (.s (.z))))) rfl (pk_seq (pk_blk (pk_seq (pk_loop (pk_blk (pk_seq pk_fn)))))) (by kernel_rfl) rfl ?_
      refine v_skip (i := 21) rfl (wanted_no rfl rfl rfl) (fun w h => ((h.anymp (.s (.s (.s (.z))))).anymp (.s (.s (.z))))) rfl (pk_seq (pk_blk (pk_seq (pk_loop (pk_blk (pk_seq pk_fn)))))) (by kernel_rfl) rfl ?_
      refine v_skip (i := 22) rfl (wanted_no rfl rfl rfl) (fun w h => ((h.anymp (.s (.s (.s (.z))))).anymp (.s (.s (.z))))) rfl (pk_seq (pk_blk (pk_seq (pk_loop (pk_blk (pk_seq pk_fn)))))) (by kernel_rfl) rfl ?_
      refine v_skip (i := 23) rfl (wanted_no rfl rfl rfl) (fun w h => ((h.anymp (.s (.s (.s (.z))))).anymp (.s (.s (.z))))) rfl (pk_seq (pk_blk (pk_seq (pk_loop (pk_blk (pk_seq pk_fn)))))) (by kernel_rfl) rfl ?_
      refine v_skip (i := 24) rfl (wanted_no rfl rfl rfl) (fun w h => ((h.anymp (.s (.s (.s (.z))))).anymp (.s (.s (.z))))) rfl (pk_seq (pk_blk (pk_seq (pk_loop (pk_blk (pk_seq pk_fn)))))) (by kernel_rfl) rfl ?_
      refine v_skip (i := 26) rfl (wanted_no rfl rfl rfl) (fun w h => ((h.anymp (.s (.s (.s (.z))))).anymp (.s (.s (.z))))) rfl (pk_seq (pk_blk (pk_seq (pk_loop (pk_blk (pk_seq pk_fn)))))) (by kernel_rfl) rfl ?_
      refine v_skip (i := 27) rfl (wanted_no rfl rfl rfl) (fun w h => ((h.anymp (.s (.s (.s (.z))))).anymp (.s (.s (.z))))) rfl (pk_seq (pk_blk (pk_seq (pk_loop (pk_blk (pk_seq pk_fn)))))) (by kernel_rfl) rfl ?_
      refine v_skip (i := 25) rfl (wanted_no rfl rfl rfl) (fun w h => ((h.anymp (.s (.s (.s (.z))))).anymp (.s (.s (.z))))) rfl (pk_seq (pk_blk (pk_seq (pk_loop (pk_blk (pk_seq pk_fn)))))) (by kernel_rfl) rfl ?_
      refine v_skip (i := 28) rfl (wanted_no rfl rfl rfl) (fun w h => ((h.anymp (.s (.s (.s (.z))))).anymp (.s (.s (.z))))) rfl (pk_seq (pk_blk (pk_seq (pk_loop (pk_blk (pk_seq pk_fn)))))) (by kernel_rfl) rfl ?_
      refine v_skip (i := 29) rfl (wanted_no rfl rfl rfl) (fun w h => ((h.anymp (.s (.s (.s (.z))))).anymp (.s (.s (.z))))) rfl (pk_seq (pk_blk (pk_seq (pk_loop (pk_blk (pk_seq pk_fn)))))) (by kernel_rfl) rfl ?_
      refine v_take (i := 30) rfl wanted_none (y_pick_t rfl rfl) (fun w h => ((h.anymp (.s (.s (.s (.z))))).anymp (.s (.s (.z))))) (fun w h => h) rfl (pk_seq (pk_blk (pk_seq (pk_loop (pk_blk (pk_seq pk_fn)))))) (by kernel_rfl) rfl ?_
      refine v_take (i := 31) rfl wanted_none (y_move rfl) (fun w h => ((h.anymp (.s (.s (.s (.z))))).anymp (.s (.s (.z))))) (fun w h => h) rfl (pk_seq (pk_blk (pk_seq (pk_loop (pk_blk (pk_seq pk_fn)))))) (by kernel_rfl) rfl ?_
      refine v_skip (i := 32) rfl (wanted_no rfl rfl rfl) (fun w h => ((h.anymp (.s (.s (.s (.z))))).anymp (.s (.s (.z))))) rfl (pk_seq (pk_blk (pk_seq (pk_loop (pk_blk (pk_seq pk_fn)))))) (by kernel_rfl) rfl ?_
      refine v_skip (i := 33) rfl (wanted_no rfl rfl rfl) (fun w h => ((h.anymp (.s (.s (.s (.z))))).anymp (.s (.s (.z))))) rfl (pk_seq (pk_blk (pk_seq (pk_loop (pk_blk (pk_seq pk_fn)))))) (by kernel_rfl) rfl ?_
      refine v_skip (i := 34) rfl (wanted_no rfl rfl rfl) (fun w h => ((h.anymp (.s (.s (.s (.z))))).anymp (.s (.s (.z))))) rfl (pk_seq (pk_blk (pk_seq (pk_loop (pk_blk (pk_seq pk_fn)))))) (by kernel_rfl) rfl ?_
      refine v_skip (i := 35) rfl (wanted_no rfl rfl rfl) (fun w h => ((h.anymp (.s (.s (.s (.z))))).anymp (.s (.s (.z))))) rfl (pk_seq (pk_blk (pk_seq (pk_loop (pk_blk (pk_seq pk_fn)))))) (by kernel_rfl) rfl ?_
      refine v_skip (i := 36) rfl (wanted_no rfl rfl rfl) (fun w h => ((h.anymp (.s (.s (.s (.z))))).anymp (.s (.s (.z))))) rfl (pk_seq (pk_blk (pk_seq (pk_loop (pk_blk (pk_seq pk_fn)))))) (by kernel_rfl) rfl ?_
      refine v_skip (i := 37) rfl (wanted_no rfl rfl rfl) (fun w h => ((h.anymp (.s (.s (.s (.z))))).anymp (.s (.s (.z))))) rfl (pk_seq (pk_blk (pk_seq (pk_loop (pk_blk (pk_seq pk_fn)))))) (by kernel_rfl) rfl ?_
      refine v_skip (i := 38) rfl (wanted_no rfl rfl rfl) (fun w h => ((h.anymp (.s (.s (.s (.z))))).anymp (.s (.s (.z))))) rfl (pk_seq (pk_blk (pk_seq (pk_loop (pk_blk (pk_seq pk_fn)))))) (by kernel_rfl) rfl ?_
      refine v_skip (i := 39) rfl (wanted_no rfl rfl rfl) (fun w h => ((h.anymp (.s (.s (.s (.z))))).anymp (.s (.s (.z))))) rfl (pk_seq (pk_blk (pk_seq (pk_loop (pk_blk (pk_seq pk_fn)))))) (by kernel_rfl) rfl ?_
      refine v_skip (i := 40) rfl (wanted_no rfl rfl rfl) (fun w h => ((h.anymp (.s (.s (.s (.z))))).anymp (.s (.s (.z))))) rfl (pk_seq (pk_blk (pk_seq (pk_loop (pk_blk (pk_seq pk_fn)))))) (by kernel_rfl) rfl ?_
      refine v_take (i := 41) rfl wanted_none (y_pick_t rfl rfl) (fun w h => ((h.anymp (.s (.s (.s (.z))))).anymp (.s (.s (.z))))) (fun w h => h) rfl (pk_seq (pk_blk (pk_seq (pk_loop (pk_blk (pk_seq pk_fn)))))) (by kernel_rfl) rfl ?_
      refine v_done (by kernel_rfl) ?_
      refine e_seq ?_
      refine w_cond_t rfl ?_
      refine w_seq ?_
      refine w_region ?_
      refine o_y (y_assign rfl) rfl rfl ?_
      refine o_y (y_assign rfl) rfl rfl ?_
      refine wl_nil ?_
      refine e_seq ?_
      refine w_ret ?_
      refine e_blk_ret ?_
      refine e_seq_ret ?_
      refine e_loop_ret ?_
      refine e_blk_ret ?_
      refine e_seq_ret ?_
      refine e_ret (ts := [4, 5]) rfl rfl rfl (fun w hw => ?_)
      have hno : ¬ HeldOk (l.map (·.e)) hs := fun H => by
        obtain ⟨q1, ⟨e, q2, q3⟩, q4, q5, q6⟩ := H i hi
        rw [← lk_E hI8 hI9, none_of h15_10] at q2; cases q2
      exact ⟨⟨none, fun _ => hno, nofun⟩, rfl, hw.base, ((hw.weak (List.nil_sublist _) (fun s hs => hs)).rall0).toNews⟩
    refine wrv_cons (i := 11) rfl rfl ?_ ?_
    ·skip
     refine o_alloc ty_47 rfl rfl (fun b21 => ?_)
     refine wl_nil ?_
     refine ev_one (fun w h => h.weak (.cons _ (List.Sublist.refl _)) (fun s hs => hs)) ?_
     refine v_one (i := 7) rfl (by kernel_rfl) rfl ?_
     refine o_callq rfl ent_49 rfl (c_ask_h hm r1 _) (fun w hw => (rd_cons (rd_L 7 rfl hw) rd_nil)) ?_
     refine wl_nil ?_
     refine ev_one (fun w h => h.weak (.cons _ (List.Sublist.refl _)) (fun s hs => hs)) ?_
     refine v_take (i := 8) rfl wanted_none (y_move rfl) (fun w h => h.weak (.cons _ (List.Sublist.refl _)) (fun s hs => hs)) (fun w h => h) rfl (pk_seq (pk_blk (pk_seq (pk_loop (pk_blk (pk_seq pk_fn)))))) (by kernel_rfl) rfl ?_
     refine v_take (i := 9) rfl wanted_none (y_extract rfl rfl) (fun w h => h.weak (.cons _ (List.Sublist.refl _)) (fun s hs => hs)) (fun w h => h) rfl (pk_seq (pk_blk (pk_seq (pk_loop (pk_blk (pk_seq pk_fn)))))) (by kernel_rfl) rfl ?_
     refine v_take (i := 10) rfl wanted_none (y_extract rfl rfl) (fun w h => h.weak (.cons _ (List.Sublist.refl _)) (fun s hs => hs)) (fun w h => h) rfl (pk_seq (pk_blk (pk_seq (pk_loop (pk_blk (pk_seq pk_fn)))))) (by kernel_rfl) rfl ?_
     refine wv_splitb (t := 72) rfl (fun h15_10 => ?_) (fun h15_10 => ?_)
     ·skip
      have hfm := hm_some hI8 h15_10
      have hbf := es_bnd hI9 hok hfm.1
      refine v_one (i := 12) rfl (by kernel_rfl) rfl ?_
      refine o_store ty_47 rfl rfl rfl .z rfl rfl rfl rfl ?_
      refine wl_nil ?_
      refine ev_one (fun w h => h.weak (.cons _ (List.Sublist.refl _)) (fun s hs => hs)) ?_
      refine v_one (i := 13) rfl (by kernel_rfl) rfl ?_
      refine o_y (y_assign rfl) rfl rfl ?_
      refine wl_nil ?_
      refine ev_tail rfl ?_
      refine v_done (by kernel_rfl) ?_
      refine e_seq ?_
      refine w_seq ?_
      refine w_drawVA 42 mixed (fun w h => ((h.anymp (.s (.s (.s (.z))))).anymp (.s (.s (.z))))) ?_
      refine v_take (i := 0) rfl wanted_none (y_move rfl) (fun w h => ((h.anymp (.s (.s (.s (.z))))).anymp (.s (.s (.z))))) (fun w h => h) rfl (pk_seq (pk_blk (pk_seq (pk_loop (pk_blk (pk_seq pk_fn)))))) (by kernel_rfl) rfl ?_
      refine v_take (i := 1) rfl wanted_none (y_not rfl) (fun w h => ((h.anymp (.s (.s (.s (.z))))).anymp (.s (.s (.z))))) (fun w h => h) rfl (pk_seq (pk_blk (pk_seq (pk_loop (pk_blk (pk_seq pk_fn)))))) (by kernel_rfl) rfl ?_
      refine v_take (i := 2) rfl wanted_none (y_move rfl) (fun w h => ((h.anymp (.s (.s (.s (.z))))).anymp (.s (.s (.z))))) (fun w h => h) rfl (pk_seq (pk_blk (pk_seq (pk_loop (pk_blk (pk_seq pk_fn)))))) (by kernel_rfl) rfl ?_
      refine v_take (i := 3) rfl (wanted_yes rfl rfl) (y_field fa_42_0 rfl) (fun w h => ((h.anymp (.s (.s (.s (.z))))).anymp (.s (.s (.z))))) (fun w h => h) rfl (pk_seq (pk_blk (pk_seq (pk_loop (pk_blk (pk_seq pk_fn)))))) (by kernel_rfl) rfl ?_
      refine v_take (i := 4) rfl (wanted_yes rfl rfl) (y_loadr 1 ty_36 rfl rfl rfl) (fun w h => ((h.anymp (.s (.s (.s (.z))))).anymp (.s (.s (.z))))) (fun w h => h) rfl (pk_seq (pk_blk (pk_seq (pk_loop (pk_blk (pk_seq pk_fn)))))) (by kernel_rfl) rfl ?_
      refine v_one (i := 5) rfl (by kernel_rfl) rfl ?_
      refine wl_gyes rfl rfl ?_
      refine o_callp rfl ent_51 (c_name_Check _) rfl ?_
      refine wl_nil ?_
      refine ev_one (fun w h => ((h.anymp (.s (.s (.s (.z))))).anymp (.s (.s (.z))))) ?_
      refine v_take (i := 6) rfl (wanted_yes rfl rfl) (y_neq rfl rfl) (fun w h => ((h.anymp (.s (.s (.s (.z))))).anymp (.s (.s (.z))))) (fun w h => h) rfl (pk_seq (pk_blk (pk_seq (pk_loop (pk_blk (pk_seq pk_fn)))))) (by kernel_rfl) rfl ?_
      refine wv_splitp (t := 79) rfl (fun h16_6 => ?_) (fun h16_6 => ?_)
      ·skip
       refine v_take (i := 7) rfl wanted_none (y_pick_f rfl rfl) (fun w h => ((h.anymp (.s (.s (.s (.z))))).anymp (.s (.s (.z))))) (fun w h => h) rfl (pk_seq (pk_blk (pk_seq (pk_loop (pk_blk (pk_seq pk_fn)))))) (by kernel_rfl) rfl ?_
       refine v_take (i := 8) rfl wanted_none (y_move rfl) (fun w h => ((h.anymp (.s (.s (.s (.z))))).anymp (.s (.s (.z))))) (fun w h => h) rfl (pk_seq (pk_blk (pk_seq (pk_loop (pk_blk (pk_seq pk_fn)))))) (by kernel_rfl) rfl ?_
       refine v_skip (i := 9) rfl (wanted_no rfl rfl rfl) (fun w h => ((h.anymp (.s (.s (.s (.z))))).anymp (.s (.s (.z))))) rfl (pk_seq (pk_blk (pk_seq (pk_loop (pk_blk (pk_seq pk_fn)))))) (by kernel_rfl) rfl ?_
       refine v_skip (i := 10) rfl (wanted_no rfl rfl rfl) (fun w h => ((h.anymp (.s (.s (.s (.z))))).anymp (.s (.s (.z))))) rfl (pk_seq (pk_blk (pk_seq (pk_loop (pk_blk (pk_seq pk_fn)))))) (by kernel_rfl) rfl ?_
       refine v_skip (i := 11) rfl (wanted_no rfl rfl rfl) (fun w h => ((h.anymp (.s (.s (.s (.z))))).anymp (.s (.s (.z))))) rfl (pk_seq (pk_blk (pk_seq (pk_loop (pk_blk (pk_seq pk_fn)))))) (by kernel_rfl) rfl ?_
       refine v_take (i := 12) rfl wanted_none (y_pick_t rfl rfl) (fun w h => ((h.anymp (.s (.s (.s (.z))))).anymp (.s (.s (.z))))) (fun w h => h) rfl (pk_seq (pk_blk (pk_seq (pk_loop (pk_blk (pk_seq pk_fn)))))) (by kernel_rfl) rfl ?_
       refine v_take (i := 13) rfl wanted_none (y_move rfl) (fun w h => ((h.anymp (.s (.s (.s (.z))))).anymp (.s (.s (.z))))) (fun w h => h) rfl (pk_seq (pk_blk (pk_seq (pk_loop (pk_blk (pk_seq pk_fn)))))) (by kernel_rfl) rfl ?_
       refine v_skip (i := 14) rfl (wanted_no rfl rfl rfl) (fun w h => ((h.anymp (.s (.s (.s (.z))))).anymp (.s (.s (.z))))) rfl (pk_seq (pk_blk (pk_seq (pk_loop (pk_blk (pk_seq pk_fn)))))) (by kernel_rfl) rfl ?_
       refine v_skip (i := 15) rfl (wanted_no rfl rfl rfl) (fun w h => ((h.anymp (.s (.s (.s (.z))))).anymp (.s (.s (.z))))) rfl (pk_seq (pk_blk (pk_seq (pk_loop (pk_blk (pk_seq pk_fn)))))) (by kernel_rfl) rfl ?_
       refine v_skip (i := 16) rfl (wanted_no rfl rfl rfl) (fun w h => ((h.anymp (.s (.s (.s (.z))))).anymp (.s (.s (.z))))) rfl (pk_seq (pk_blk (pk_seq (pk_loop (pk_blk (pk_seq pk_fn)))))) (by kernel_rfl) rfl ?_
       refine v_skip (i := 17) rfl (wanted_no rfl rfl rfl) (fun w h => ((h.anymp (.s (.s (.s (.z))))).anymp (.s (.s (.z))))) rfl (pk_seq (pk_blk (pk_seq (pk_loop (pk_blk (pk_seq pk_fn)))))) (by kernel_rfl) rfl ?_
       refine v_take (i := 18) rfl wanted_none (y_pick_t rfl rfl) (fun w h => ((h.anymp (.s (.s (.s (.z))))).anymp (.s (.s (.z))))) (fun w h => h) rfl (pk_seq (pk_blk (pk_seq (pk_loop (pk_blk (pk_seq pk_fn)))))) (by kernel_rfl) rfl ?_
       refine v_take (i := 19) rfl wanted_none (y_move rfl) (fun w h => ((h.anymp (.s (.s (.s (.z))))).anymp (.s (.s (.z))))) (fun w h => h) rfl (pk_seq (pk_blk (pk_seq (pk_loop (pk_blk (pk_seq pk_fn)))))) (by kernel_rfl) rfl ?_
       refine v_skip (i := 20) rfl (wanted_no rfl rfl rfl) (fun w h => ((h.anymp (.s (.s (.s (.z))))).anymp (.s (.s (.z))))) rfl (pk_seq (pk_blk (pk_seq (pk_loop (pk_blk (pk_seq pk_fn)))))) (by kernel_rfl) rfl ?_
       refine v_skip (i := 21) rfl (wanted_no rfl rfl rfl) (fun w h => ((h.anymp (.s (.s (.s (.z))))).anymp (.s (.s (.z))))) rfl (pk_seq (pk_blk (pk_seq (pk_loop (pk_blk (pk_seq pk_fn)))))) (by kernel_rfl) rfl ?_
       refine v_skip (i := 22) rfl (wanted_no rfl rfl rfl) (fun w h => ((h.anymp (.s (.s (.s (.z))))).anymp (.s (.s (.z))))) rfl (pk_seq (pk_blk (pk_seq (pk_loop (pk_blk (pk_seq pk_fn)))))) (by kernel_rfl) rfl ?_
       refine v_skip (i := 23) rfl (wanted_no rfl rfl rfl) (fun w h => ((h.anymp (.s (.s (.s (.z))))).anymp (.s (.s (.z))))) rfl (pk_seq (pk_blk (pk_seq (pk_loop (pk_blk (pk_seq pk_fn)))))) (by kernel_rfl) rfl ?_
       refine v_skip (i := 24) rfl (wanted_no rfl rfl rfl) (fun w h => ((h.anymp (.s (.s (.s (.z))))).anymp (.s (.s (.z))))) rfl (pk_seq (pk_blk (pk_seq (pk_loop (pk_blk (pk_seq pk_fn)))))) (by kernel_rfl) rfl ?_
       refine v_skip (i := 26) rfl (wanted_no rfl rfl rfl) (fun w h => ((h.anymp (.s (.s (.s (.z))))).anymp (.s (.s (.z))))) rfl (pk_seq (pk_blk (pk_seq (pk_loop (pk_blk (pk_seq pk_fn)))))) (by kernel_rfl) rfl ?_
       refine v_skip (i := 27) rfl (wanted_no rfl rfl rfl) (fun w h => ((h.anymp (.s (.s (.s (.z))))).anymp (.s (.s (.z))))) rfl (pk_seq (pk_blk (pk_seq (pk_loop (pk_blk (pk_seq pk_fn)))))) (by kernel_rfl) rfl ?_
       refine v_skip (i := 25) rfl (wanted_no rfl rfl rfl) (fun w h => ((h.anymp (.s (.s (.s (.z))))).anymp (.s (.s (.z))))) rfl (pk_seq (pk_blk (pk_seq (pk_loop (pk_blk (pk_seq pk_fn)))))) (by kernel_rfl) rfl ?_
       refine v_skip (i := 28) rfl (wanted_no rfl rfl rfl) (fun w h => ((h.anymp (.s (.s (.s (.z))))).anymp (.s (.s (.z))))) rfl (pk_seq (pk_blk (pk_seq (pk_loop (pk_blk (pk_seq pk_fn)))))) (by kernel_rfl) rfl ?_
       refine v_skip (i := 29) rfl (wanted_no rfl rfl rfl) (fun w h => ((h.anymp (.s (.s (.s (.z))))).anymp (.s (.s (.z))))) rfl (pk_seq (pk_blk (pk_seq (pk_loop (pk_blk (pk_seq pk_fn)))))) (by kernel_rfl) rfl ?_
       refine v_take (i := 30) rfl wanted_none (y_pick_t rfl rfl) (fun w h => ((h.anymp (.s (.s (.s (.z))))).anymp (.s (.s (.z))))) (fun w h => h) rfl (pk_seq (pk_blk (pk_seq (pk_loop (pk_blk (pk_seq pk_fn)))))) (by kernel_rfl) rfl ?_
       refine v_take (i := 31) rfl wanted_none (y_move rfl) (fun w h => ((h.anymp (.s (.s (.s (.z))))).anymp (.s (.s (.z))))) (fun w h => h) rfl (pk_seq (pk_blk (pk_seq (pk_loop (pk_blk (pk_seq pk_fn)))))) (by kernel_rfl) rfl ?_
       refine v_skip (i := 32) rfl (wanted_no rfl rfl rfl) (fun w h => ((h.anymp (.s (.s (.s (.z))))).anymp (.s (.s (.z))))) rfl (pk_seq (pk_blk (pk_seq (pk_loop (pk_blk (pk_seq pk_fn)))))) (by kernel_rfl) rfl ?_
       refine v_skip (i := 33) rfl (wanted_no rfl rfl rfl) (fun w h => ((h.anymp (.s (.s (.s (.z))))).anymp (.s (.s (.z))))) rfl (pk_seq (pk_blk (pk_seq (pk_loop (pk_blk (pk_seq pk_fn)))))) (by kernel_rfl) rfl ?_
       refine v_skip (i := 34) rfl (wanted_no rfl rfl rfl) (fun w h => ((h.anymp (.s (.s (.s (.z))))).anymp (.s (.s (.z))))) rfl (pk_seq (pk_blk (pk_seq (pk_loop (pk_blk (pk_seq pk_fn)))))) (by kernel_rfl) rfl ?_
       refine v_skip (i := 35) rfl (wanted_no rfl rfl rfl) (fun w h => ((h.anymp (.s (.s (.s (.z))))).anymp (.s (.s (.z))))) rfl (pk_seq (pk_blk (pk_seq (pk_loop (pk_blk (pk_seq pk_fn)))))) (by kernel_rfl) rfl ?_
       refine v_skip (i := 36) rfl (wanted_no rfl rfl rfl) (fun w h => ((h.anymp (.s (.s (.s (.z))))).anymp (.s (.s (.z))))) rfl (pk_seq (pk_blk (pk_seq (pk_loop (pk_blk (pk_seq pk_fn)))))) (by kernel_rfl) rfl ?_
       refine v_skip (i := 37) rfl (wanted_no rfl rfl rfl) (fun w h => ((h.anymp (.s (.s (.s (.z))))).anymp (.s (.s (.z))))) rfl (pk_seq (pk_blk (pk_seq (pk_loop (pk_blk (pk_seq pk_fn)))))) (by kernel_rfl) rfl ?_
       refine v_skip (i := 38) rfl (wanted_no rfl rfl rfl) (fun w h => ((h.anymp (.s (.s (.s (.z))))).anymp (.s (.s (.z))))) rfl (pk_seq (pk_blk (pk_seq (pk_loop (pk_blk (pk_seq pk_fn)))))) (by kernel_rfl) rfl ?_
       refine v_skip (i := 39) rfl (wanted_no rfl rfl rfl) (fun w h => ((h.anymp (.s (.s (.s (.z))))).anymp (.s (.s (.z))))) rfl (pk_seq (pk_blk (pk_seq (pk_loop (pk_blk (pk_seq pk_fn)))))) (by kernel_rfl) rfl ?_
       refine v_skip (i := 40) rfl (wanted_no rfl rfl rfl) (fun w h => ((h.anymp (.s (.s (.s (.z))))).anymp (.s (.s (.z))))) rfl (pk_seq (pk_blk (pk_seq (pk_loop (pk_blk (pk_seq pk_fn)))))) (by kernel_rfl) rfl ?_
       refine v_take (i := 41) rfl wanted_none (y_pick_t rfl rfl) (fun w h => ((h.anymp (.s (.s (.s (.z))))).anymp (.s (.s (.z))))) (fun w h => h) rfl (pk_seq (pk_blk (pk_seq (pk_loop (pk_blk (pk_seq pk_fn)))))) (by kernel_rfl) rfl ?_
       refine v_done (by kernel_rfl) ?_
       refine e_seq ?_
       refine w_cond_t rfl ?_
       refine w_seq ?_
       refine w_region ?_
       refine o_y (y_assign rfl) rfl rfl ?_
       refine o_y (y_assign rfl) rfl rfl ?_
       refine wl_nil ?_
       refine e_seq ?_
       refine w_ret ?_
       refine e_blk_ret ?_
       refine e_seq_ret ?_
       refine e_loop_ret ?_
       refine e_blk_ret ?_
       refine e_seq_ret ?_
       refine e_ret (ts := [4, 5]) rfl rfl rfl (fun w hw => ?_)
       have hno : ¬ HeldOk (l.map (·.e)) hs := fun H => by
         obtain ⟨q1, ⟨e, q2, q3⟩, q4, q5, q6⟩ := H i hi
         exact h16_6 q1
       exact ⟨⟨none, fun _ => hno, nofun⟩, rfl, hw.base, ((hw.weak (List.nil_sublist _) (fun s hs => hs)).rall0).toNews⟩
      ·skip
       refine v_take (i := 7) rfl wanted_none (y_pick_f rfl rfl) (fun w h => ((h.anymp (.s (.s (.s (.z))))).anymp (.s (.s (.z))))) (fun w h => h) rfl (pk_seq (pk_blk (pk_seq (pk_loop (pk_blk (pk_seq pk_fn)))))) (by kernel_rfl) rfl ?_
       refine v_take (i := 8) rfl wanted_none (y_move rfl) (fun w h => ((h.anymp (.s (.s (.s (.z))))).anymp (.s (.s (.z))))) (fun w h => h) rfl (pk_seq (pk_blk (pk_seq (pk_loop (pk_blk (pk_seq pk_fn)))))) (by kernel_rfl) rfl ?_
       refine v_take (i := 9) rfl (wanted_yes rfl rfl) (y_field fa_47_1 rfl) (fun w h => ((h.anymp (.s (.s (.s (.z))))).anymp (.s (.s (.z))))) (fun w h => h) rfl (pk_seq (pk_blk (pk_seq (pk_loop (pk_blk (pk_seq pk_fn)))))) (by kernel_rfl) rfl ?_
       refine v_take (i := 10) rfl (wanted_yes rfl rfl) (y_loadr 0 ty_3 rfl rfl rfl) (fun w h => ((h.anymp (.s (.s (.s (.z))))).anymp (.s (.s (.z))))) (fun w h => h) rfl (pk_seq (pk_blk (pk_seq (pk_loop (pk_blk (pk_seq pk_fn)))))) (by kernel_rfl) rfl ?_
       refine v_take (i := 11) rfl (wanted_yes rfl rfl) (y_neq rfl rfl) (fun w h => ((h.anymp (.s (.s (.s (.z))))).anymp (.s (.s (.z))))) (fun w h => h) rfl (pk_seq (pk_blk (pk_seq (pk_loop (pk_blk (pk_seq pk_fn)))))) (by kernel_rfl) rfl ?_
       refine wv_splitp (t := 84) rfl (fun h16_11 => ?_) (fun h16_11 => ?_)
       ·skip
        refine v_take (i := 12) rfl wanted_none (y_pick_f rfl rfl) (fun w h => ((h.anymp (.s (.s (.s (.z))))).anymp (.s (.s (.z))))) (fun w h => h) rfl (pk_seq (pk_blk (pk_seq (pk_loop (pk_blk (pk_seq pk_fn)))))) (by kernel_rfl) rfl ?_
        refine v_take (i := 13) rfl wanted_none (y_move rfl) (fun w h => ((h.anymp (.s (.s (.s (.z))))).anymp (.s (.s (.z))))) (fun w h => h) rfl (pk_seq (pk_blk (pk_seq (pk_loop (pk_blk (pk_seq pk_fn)))))) (by kernel_rfl) rfl ?_
        refine v_skip (i := 14) rfl (wanted_no rfl rfl rfl) (fun w h => ((h.anymp (.s (.s (.s (.z))))).anymp (.s (.s (.z))))) rfl (pk_seq (pk_blk (pk_seq (pk_loop (pk_blk (pk_seq pk_fn)))))) (by kernel_rfl) rfl ?_
        refine v_skip (i := 15) rfl (wanted_no rfl rfl rfl) (fun w h => ((h.anymp (.s (.s (.s (.z))))).anymp (.s (.s (.z))))) rfl (pk_seq (pk_blk (pk_seq (pk_loop (pk_blk (pk_seq pk_fn)))))) (by kernel_rfl) rfl ?_
        refine v_skip (i := 16) rfl (wanted_no rfl rfl rfl) (fun w h => ((h.anymp (.s (.s (.s (.z))))).anymp (.s (.s (.z))))) rfl (pk_seq (pk_blk (pk_seq (pk_loop (pk_blk (pk_seq pk_fn)))))) (by kernel_rfl) rfl ?_
        refine v_skip (i := 17) rfl (wanted_no rfl rfl rfl) (fun w h => ((h.anymp (.s (.s (.s (.z))))).anymp (.s (.s (.z))))) rfl (pk_seq (pk_blk (pk_seq (pk_loop (pk_blk (pk_seq pk_fn)))))) (by kernel_rfl) rfl ?_
        refine v_take (i := 18) rfl wanted_none (y_pick_t rfl rfl) (fun w h => ((h.anymp (.s (.s (.s (.z))))).anymp (.s (.s (.z))))) (fun w h => h) rfl (pk_seq (pk_blk (pk_seq (pk_loop (pk_blk (pk_seq pk_fn)))))) (by kernel_rfl) rfl ?_
        refine v_take (i := 19) rfl wanted_none (y_move rfl) (fun w h => ((h.anymp (.s (.s (.s (.z))))).anymp (.s (.s (.z))))) (fun w h => h) rfl (pk_seq (pk_blk (pk_seq (pk_loop (pk_blk (pk_seq pk_fn)))))) (by kernel_rfl) rfl ?_
        refine v_skip (i := 20) rfl (wanted_no rfl rfl rfl) (fun w h => ((h.anymp (.s (.s (.s (.z))))).anymp (.s (.s (.z))))) rfl (pk_seq (pk_blk (pk_seq (pk_loop (pk_blk (pk_seq pk_fn)))))) (by kernel_rfl) rfl ?_
        refine v_skip (i := 21) rfl (wanted_no rfl rfl rfl) (fun w h => ((h.anymp (.s (.s (.s (.z))))).anymp (.s (.s (.z))))) rfl (pk_seq (pk_blk (pk_seq (pk_loop (pk_blk (pk_seq pk_fn)))))) (by kernel_rfl) rfl ?_
        refine v_skip (i := 22) rfl (wanted_no rfl rfl rfl) (fun w h => ((h.anymp (.s (.s (.s (.z))))).anymp (.s (.s (.z))))) rfl (pk_seq (pk_blk (pk_seq (pk_loop (pk_blk (pk_seq pk_fn)))))) (by kernel_rfl) rfl ?_
        refine v_skip (i := 23) rfl (wanted_no rfl rfl rfl) (fun w h => ((h.anymp (.s (.s (.s (.z))))).anymp (.s (.s (.z))))) rfl (pk_seq (pk_blk (pk_seq (pk_loop (pk_blk (pk_seq pk_fn)))))) (by kernel_rfl) rfl ?_
        refine v_skip (i := 24) rfl (wanted_no rfl rfl rfl) (fun w h => ((h.anymp (.s (.s (.s (.z))))).anymp (.s (.s (.z))))) rfl (pk_seq (pk_blk (pk_seq (pk_loop (pk_blk (pk_seq pk_fn)))))) (by kernel_rfl) rfl ?_
        refine v_skip (i := 26) rfl (wanted_no rfl rfl rfl) (fun w h => ((h.anymp (.s (.s (.s (.z))))).anymp (.s (.s (.z))))) rfl (pk_seq (pk_blk (pk_seq (pk_loop (pk_blk (pk_seq pk_fn)))))) (by kernel_rfl) rfl ?_
        refine v_skip (i := 27) rfl (wanted_no rfl rfl rfl) (fun w h => ((h.anymp (.s (.s (.s (.z))))).anymp (.s (.s (.z))))) rfl (pk_seq (pk_blk (pk_seq (pk_loop (pk_blk (pk_seq pk_fn)))))) (by kernel_rfl) rfl ?_
        refine v_skip (i := 25) rfl (wanted_no rfl rfl rfl) (fun w h => ((h.anymp (.s (.s (.s (.z))))).anymp (.s (.s (.z))))) rfl (pk_seq (pk_blk (pk_seq (pk_loop (pk_blk (pk_seq pk_fn)))))) (by kernel_rfl) rfl ?_
        refine v_skip (i := 28) rfl (wanted_no rfl rfl rfl) (fun w h => ((h.anymp (.s (.s (.s (.z))))).anymp (.s (.s (.z))))) rfl (pk_seq (pk_blk (pk_seq (pk_loop (pk_blk (pk_seq pk_fn)))))) (by kernel_rfl) rfl ?_
        refine v_skip (i := 29) rfl (wanted_no rfl rfl rfl) (fun w h => ((h.anymp (.s (.s (.s (.z))))).anymp (.s (.s (.z))))) rfl (pk_seq (pk_blk (pk_seq (pk_loop (pk_blk (pk_seq pk_fn)))))) (by kernel_rfl) rfl ?_
        refine v_take (i := 30) rfl wanted_none (y_pick_t rfl rfl) (fun w h => ((h.anymp (.s (.s (.s (.z))))).anymp (.s (.s (.z))))) (fun w h => h) rfl (pk_seq (pk_blk (pk_seq (pk_loop (pk_blk (pk_seq pk_fn)))))) (by kernel_rfl) rfl ?_
        refine v_take (i := 31) rfl wanted_none (y_move rfl) (fun w h => ((h.anymp (.s (.s (.s (.z))))).anymp (.s (.s (.z))))) (fun w h => h) rfl (pk_seq (pk_blk (pk_seq (pk_loop (pk_blk (pk_seq pk_fn)))))) (by kernel_rfl) rfl ?_
        refine v_skip (i := 32) rfl (wanted_no rfl rfl rfl) (fun w h => ((h.anymp (.s (.s (.s (.z))))).anymp (.s (.s (.z))))) rfl (pk_seq (pk_blk (pk_seq (pk_loop (pk_blk (pk_seq pk_fn)))))) (by kernel_rfl) rfl ?_
        refine v_skip (i := 33) rfl (wanted_no rfl rfl rfl) (fun w h => ((h.anymp (.s (.s (.s (.z))))).anymp (.s (.s (.z))))) rfl (pk_seq (pk_blk (pk_seq (pk_loop (pk_blk (pk_seq pk_fn)))))) (by kernel_rfl) rfl ?_
        refine v_skip (i := 34) rfl (wanted_no rfl rfl rfl) (fun w h => ((h.anymp (.s (.s (.s (.z))))).anymp (.s (.s (.z))))) rfl (pk_seq (pk_blk (pk_seq (pk_loop (pk_blk (pk_seq pk_fn)))))) (by kernel_rfl) rfl ?_
        refine v_skip (i := 35) rfl (wanted_no rfl rfl rfl) (fun w h => ((h.anymp (.s (.s (.s (.z))))).anymp (.s (.s (.z))))) rfl (pk_seq (pk_blk (pk_seq (pk_loop (pk_blk (pk_seq pk_fn)))))) (by kernel_rfl) rfl ?_
        refine v_skip (i := 36) rfl (wanted_no rfl rfl rfl) (fun w h => ((h.anymp (.s (.s (.s (.z))))).anymp (.s (.s (.z))))) rfl (pk_seq (pk_blk (pk_seq (pk_loop (pk_blk (pk_seq pk_fn)))))) (by kernel_rfl) rfl ?_
        refine v_skip (i := 37) rfl (wanted_no rfl rfl rfl) (fun w h => ((h.anymp (.s (.s (.s (.z))))).anymp (.s (.s (.z))))) rfl (pk_seq (pk_blk (pk_seq (pk_loop (pk_blk (pk_seq pk_fn)))))) (by kernel_rfl) rfl ?_
        refine v_skip (i := 38) rfl (wanted_no rfl rfl rfl) (fun w h => ((h.anymp (.s (.s (.s (.z))))).anymp (.s (.s (.z))))) rfl (pk_seq (pk_blk (pk_seq (pk_loop (pk_blk (pk_seq pk_fn)))))) (by kernel_rfl) rfl ?_
        refine v_skip (i := 39) rfl (wanted_no rfl rfl rfl) (fun w h => ((h.anymp (.s (.s (.s (.z))))).anymp (.s (.s (.z))))) rfl (pk_seq (pk_blk (pk_seq (pk_loop (pk_blk (pk_seq pk_fn)))))) (by kernel_rfl) rfl ?_
        refine v_skip (i := 40) rfl (wanted_no rfl rfl rfl) (fun w h => ((h.anymp (.s (.s (.s (.z))))).anymp (.s (.s (.z))))) rfl (pk_seq (pk_blk (pk_seq (pk_loop (pk_blk (pk_seq pk_fn)))))) (by kernel_rfl) rfl ?_
        refine v_take (i := 41) rfl wanted_none (y_pick_t rfl rfl) (fun w h => ((h.anymp (.s (.s (.s (.z))))).anymp (.s (.s (.z))))) (fun w h => h) rfl (pk_seq (pk_blk (pk_seq (pk_loop (pk_blk (pk_seq pk_fn)))))) (by kernel_rfl) rfl ?_
        refine v_done (by kernel_rfl) ?_
        refine e_seq ?_
        refine w_cond_t rfl ?_
        refine w_seq ?_
        refine w_region ?_
        refine o_y (y_assign rfl) rfl rfl ?_
        refine o_y (y_assign rfl) rfl rfl ?_
        refine wl_nil ?_
        refine e_seq ?_
        refine w_ret ?_
        refine e_blk_ret ?_
        refine e_seq_ret ?_
        refine e_loop_ret ?_
        refine e_blk_ret ?_
        refine e_seq_ret ?_
        refine e_ret (ts := [4, 5]) rfl rfl rfl (fun w hw => ?_)
        have hno : ¬ HeldOk (l.map (·.e)) hs := fun H => by
          obtain ⟨q1, ⟨e, q2, q3⟩, q4, q5, q6⟩ := H i hi
          rw [lk_some hI8 hI9 h15_10] at q2; rw [← Option.some.inj q2] at q3; exact h16_11 q3
        exact ⟨⟨none, fun _ => hno, nofun⟩, rfl, hw.base, ((hw.weak (List.nil_sublist _) (fun s hs => hs)).rall0).toNews⟩
       ·skip
        refine v_take (i := 12) rfl wanted_none (y_pick_f rfl rfl) (fun w h => ((h.anymp (.s (.s (.s (.z))))).anymp (.s (.s (.z))))) (fun w h => h) rfl (pk_seq (pk_blk (pk_seq (pk_loop (pk_blk (pk_seq pk_fn)))))) (by kernel_rfl) rfl ?_
        refine v_take (i := 13) rfl wanted_none (y_move rfl) (fun w h => ((h.anymp (.s (.s (.s (.z))))).anymp (.s (.s (.z))))) (fun w h => h) rfl (pk_seq (pk_blk (pk_seq (pk_loop (pk_blk (pk_seq pk_fn)))))) (by kernel_rfl) rfl ?_
        refine v_take (i := 14) rfl (wanted_yes rfl rfl) (y_field fa_42_1 rfl) (fun w h => ((h.anymp (.s (.s (.s (.z))))).anymp (.s (.s (.z))))) (fun w h => h) rfl (pk_seq (pk_blk (pk_seq (pk_loop (pk_blk (pk_seq pk_fn)))))) (by kernel_rfl) rfl ?_
        refine v_take (i := 15) rfl (wanted_yes rfl rfl) (y_loadrs 1 ty_28 rfl rfl rfl rfl) (fun w h => ((h.anymp (.s (.s (.s (.z))))).anymp (.s (.s (.z))))) (fun w h => h) rfl (pk_seq (pk_blk (pk_seq (pk_loop (pk_blk (pk_seq pk_fn)))))) (by kernel_rfl) rfl ?_
        refine v_one (i := 16) rfl (by kernel_rfl) rfl ?_
        refine wl_gyes rfl rfl ?_
        refine o_callp rfl ent_52 (c_addr_Check _ hih.2) rfl ?_
        refine wl_nil ?_
        refine ev_one (fun w h => ((h.anymp (.s (.s (.s (.z))))).anymp (.s (.s (.z))))) ?_
        refine v_take (i := 17) rfl (wanted_yes rfl rfl) (y_neq rfl rfl) (fun w h => ((h.anymp (.s (.s (.s (.z))))).anymp (.s (.s (.z))))) (fun w h => h) rfl (pk_seq (pk_blk (pk_seq (pk_loop (pk_blk (pk_seq pk_fn)))))) (by kernel_rfl) rfl ?_
        refine wv_splitp (t := 90) rfl (fun h16_17 => ?_) (fun h16_17 => ?_)
        ·skip
         refine v_take (i := 18) rfl wanted_none (y_pick_f rfl rfl) (fun w h => ((h.anymp (.s (.s (.s (.z))))).anymp (.s (.s (.z))))) (fun w h => h) rfl (pk_seq (pk_blk (pk_seq (pk_loop (pk_blk (pk_seq pk_fn)))))) (by kernel_rfl) rfl ?_
         refine v_take (i := 19) rfl wanted_none (y_move rfl) (fun w h => ((h.anymp (.s (.s (.s (.z))))).anymp (.s (.s (.z))))) (fun w h => h) rfl (pk_seq (pk_blk (pk_seq (pk_loop (pk_blk (pk_seq pk_fn)))))) (by kernel_rfl) rfl ?_
         refine v_skip (i := 20) rfl (wanted_no rfl rfl rfl) (fun w h => ((h.anymp (.s (.s (.s (.z))))).anymp (.s (.s (.z))))) rfl (pk_seq (pk_blk (pk_seq (pk_loop (pk_blk (pk_seq pk_fn)))))) (by kernel_rfl) rfl ?_
         refine v_skip (i := 21) rfl (wanted_no rfl rfl rfl) (fun w h => ((h.anymp (.s (.s (.s (.z))))).anymp (.s (.s (.z))))) rfl (pk_seq (pk_blk (pk_seq (pk_loop (pk_blk (pk_seq pk_fn)))))) (by kernel_rfl) rfl ?_
         refine v_skip (i := 22) rfl (wanted_no rfl rfl rfl) (fun w h => ((h.anymp (.s (.s (.s (.z))))).anymp (.s (.s (.z))))) rfl (pk_seq (pk_blk (pk_seq (pk_loop (pk_blk (pk_seq pk_fn)))))) (by kernel_rfl) rfl ?_
         refine v_skip (i := 23) rfl (wanted_no rfl rfl rfl) (fun w h => ((h.anymp (.s (.s (.s (.z))))).anymp (.s (.s (.z))))) rfl (pk_seq (pk_blk (pk_seq (pk_loop (pk_blk (pk_seq pk_fn)))))) (by kernel_rfl) rfl ?_
         refine v_skip (i := 24) rfl (wanted_no rfl rfl rfl) (fun w h => ((h.anymp (.s (.s (.s (.z))))).anymp (.s (.s (.z))))) rfl (pk_seq (pk_blk (pk_seq (pk_loop (pk_blk (pk_seq pk_fn)))))) (by kernel_rfl) rfl ?_
         refine v_skip (i := 26) rfl (wanted_no rfl rfl rfl) (fun w h => ((h.anymp (.s (.s (.s (.z))))).anymp (.s (.s (.z))))) rfl (pk_seq (pk_blk (pk_seq (pk_loop (pk_blk (pk_seq pk_fn)))))) (by kernel_rfl) rfl ?_
         refine v_skip (i := 27) rfl (wanted_no rfl rfl rfl) (fun w h => ((h.anymp (.s (.s (.s (.z))))).anymp (.s (.s (.z))))) rfl (pk_seq (pk_blk (pk_seq (pk_loop (pk_blk (pk_seq pk_fn)))))) (by kernel_rfl) rfl ?_
         refine v_skip (i := 25) rfl (wanted_no rfl rfl rfl) (fun w h => ((h.anymp (.s (.s (.s (.z))))).anymp (.s (.s (.z))))) rfl (pk_seq (pk_blk (pk_seq (pk_loop (pk_blk (pk_seq pk_fn)))))) (by kernel_rfl) rfl ?_
         refine v_skip (i := 28) rfl (wanted_no rfl rfl rfl) (fun w h => ((h.anymp (.s (.s (.s (.z))))).anymp (.s (.s (.z))))) rfl (pk_seq (pk_blk (pk_seq (pk_loop (pk_blk (pk_seq pk_fn)))))) (by kernel_rfl) rfl ?_
         refine v_skip (i := 29) rfl (wanted_no rfl rfl rfl) (fun w h => ((h.anymp (.s (.s (.s (.z))))).anymp (.s (.s (.z))))) rfl (pk_seq (pk_blk (pk_seq (pk_loop (pk_blk (pk_seq pk_fn)))))) (by kernel_rfl) rfl ?_
         refine v_take (i := 30) rfl wanted_none (y_pick_t rfl rfl) (fun w h => ((h.anymp (.s (.s (.s (.z))))).anymp (.s (.s (.z))))) (fun w h => h) rfl (pk_seq (pk_blk (pk_seq (pk_loop (pk_blk (pk_seq pk_fn)))))) (by kernel_rfl) rfl ?_
         refine v_take (i := 31) rfl wanted_none (y_move rfl) (fun w h => ((h.anymp (.s (.s (.s (.z))))).anymp (.s (.s (.z))))) (fun w h => h) rfl (pk_seq (pk_blk (pk_seq (pk_loop (pk_blk (pk_seq pk_fn)))))) (by kernel_rfl) rfl ?_
         refine v_skip (i := 32) rfl (wanted_no rfl rfl rfl) (fun w h => ((h.anymp (.s (.s (.s (.z))))).anymp (.s (.s (.z))))) rfl (pk_seq (pk_blk (pk_seq (pk_loop (pk_blk (pk_seq pk_fn)))))) (by kernel_rfl) rfl ?_
         refine v_skip (i := 33) rfl (wanted_no rfl rfl rfl) (fun w h => ((h.anymp (.s (.s (.s (.z))))).anymp (.s (.s (.z))))) rfl (pk_seq (pk_blk (pk_seq (pk_loop (pk_blk (pk_seq pk_fn)))))) (by kernel_rfl) rfl ?_
         refine v_skip (i := 34) rfl (wanted_no rfl rfl rfl) (fun w h => ((h.anymp (.s (.s (.s (.z))))).anymp (.s (.s (.z))))) rfl (pk_seq (pk_blk (pk_seq (pk_loop (pk_blk (pk_seq pk_fn)))))) (by kernel_rfl) rfl ?_
         refine v_skip (i := 35) rfl (wanted_no rfl rfl rfl) (fun w h => ((h.anymp (.s (.s (.s (.z))))).anymp (.s (.s (.z))))) rfl (pk_seq (pk_blk (pk_seq (pk_loop (pk_blk (pk_seq pk_fn)))))) (by kernel_rfl) rfl ?_
         refine v_skip (i := 36) rfl (wanted_no rfl rfl rfl) (fun w h => ((h.anymp (.s (.s (.s (.z))))).anymp (.s (.s (.z))))) rfl (pk_seq (pk_blk (pk_seq (pk_loop (pk_blk (pk_seq pk_fn)))))) (by kernel_rfl) rfl ?_
         refine v_skip (i := 37) rfl (wanted_no rfl rfl rfl) (fun w h => ((h.anymp (.s (.s (.s (.z))))).anymp (.s (.s (.z))))) rfl (pk_seq (pk_blk (pk_seq (pk_loop (pk_blk (pk_seq pk_fn)))))) (by kernel_rfl) rfl ?_
         refine v_skip (i := 38) rfl (wanted_no rfl rfl rfl) (fun w h => ((h.anymp (.s (.s (.s (.z))))).anymp (.s (.s (.z))))) rfl (pk_seq (pk_blk (pk_seq (pk_loop (pk_blk (pk_seq pk_fn)))))) (by kernel_rfl) rfl ?_
         refine v_skip (i := 39) rfl (wanted_no rfl rfl rfl) (fun w h => ((h.anymp (.s (.s (.s (.z))))).anymp (.s (.s (.z))))) rfl (pk_seq (pk_blk (pk_seq (pk_loop (pk_blk (pk_seq pk_fn)))))) (by kernel_rfl) rfl ?_
         refine v_skip (i := 40) rfl (wanted_no rfl rfl rfl) (fun w h => ((h.anymp (.s (.s (.s (.z))))).anymp (.s (.s (.z))))) rfl (pk_seq (pk_blk (pk_seq (pk_loop (pk_blk (pk_seq pk_fn)))))) (by kernel_rfl) rfl ?_
         refine v_take (i := 41) rfl wanted_none (y_pick_t rfl rfl) (fun w h => ((h.anymp (.s (.s (.s (.z))))).anymp (.s (.s (.z))))) (fun w h => h) rfl (pk_seq (pk_blk (pk_seq (pk_loop (pk_blk (pk_seq pk_fn)))))) (by kernel_rfl) rfl ?_
         refine v_done (by kernel_rfl) ?_
         refine e_seq ?_
         refine w_cond_t rfl ?_
         refine w_seq ?_
         refine w_region ?_
         refine o_y (y_assign rfl) rfl rfl ?_
         refine o_y (y_assign rfl) rfl rfl ?_
         refine wl_nil ?_
         refine e_seq ?_
         refine w_ret ?_
         refine e_blk_ret ?_
         refine e_seq_ret ?_
         refine e_loop_ret ?_
         refine e_blk_ret ?_
         refine e_seq_ret ?_
         refine e_ret (ts := [4, 5]) rfl rfl rfl (fun w hw => ?_)
         have hno : ¬ HeldOk (l.map (·.e)) hs := fun H => by
           obtain ⟨q1, ⟨e, q2, q3⟩, q4, q5, q6⟩ := H i hi
           exact h16_17 q4
         exact ⟨⟨none, fun _ => hno, nofun⟩, rfl, hw.base, ((hw.weak (List.nil_sublist _) (fun s hs => hs)).rall0).toNews⟩
        ·skip
         refine v_take (i := 18) rfl wanted_none (y_pick_f rfl rfl) (fun w h => ((h.anymp (.s (.s (.s (.z))))).anymp (.s (.s (.z))))) (fun w h => h) rfl (pk_seq (pk_blk (pk_seq (pk_loop (pk_blk (pk_seq pk_fn)))))) (by kernel_rfl) rfl ?_
         refine v_take (i := 19) rfl wanted_none (y_move rfl) (fun w h => ((h.anymp (.s (.s (.s (.z))))).anymp (.s (.s (.z))))) (fun w h => h) rfl (pk_seq (pk_blk (pk_seq (pk_loop (pk_blk (pk_seq pk_fn)))))) (by kernel_rfl) rfl ?_
         refine v_take (i := 20) rfl (wanted_yes rfl rfl) (y_move rfl) (fun w h => ((h.anymp (.s (.s (.s (.z))))).anymp (.s (.s (.z))))) (fun w h => h) rfl (pk_seq (pk_blk (pk_seq (pk_loop (pk_blk (pk_seq pk_fn)))))) (by kernel_rfl) rfl ?_
         refine v_take (i := 21) rfl (wanted_yes rfl rfl) (y_nilCheck rfl) (fun w h => ((h.anymp (.s (.s (.s (.z))))).anymp (.s (.s (.z))))) (fun w h => h) rfl (pk_seq (pk_blk (pk_seq (pk_loop (pk_blk (pk_seq pk_fn)))))) (by kernel_rfl) rfl ?_
         refine v_take (i := 22) rfl (wanted_yes rfl rfl) (y_field fa_91_2 rfl) (fun w h => ((h.anymp (.s (.s (.s (.z))))).anymp (.s (.s (.z))))) (fun w h => h) rfl (pk_seq (pk_blk (pk_seq (pk_loop (pk_blk (pk_seq pk_fn)))))) (by kernel_rfl) rfl ?_
         refine v_take (i := 23) rfl (wanted_yes rfl rfl) (y_loadr 6 ty_87 rfl rfl rfl) (fun w h => ((h.anymp (.s (.s (.s (.z))))).anymp (.s (.s (.z))))) (fun w h => h) rfl (pk_seq (pk_blk (pk_seq (pk_loop (pk_blk (pk_seq pk_fn)))))) (by kernel_rfl) rfl ?_
         refine v_take (i := 24) rfl (wanted_yes rfl rfl) (y_loadrs 0 ty_47 rfl rfl rfl rfl) (fun w h => ((h.anymp (.s (.s (.s (.z))))).anymp (.s (.s (.z))))) (fun w h => h) rfl (pk_seq (pk_blk (pk_seq (pk_loop (pk_blk (pk_seq pk_fn)))))) (by kernel_rfl) rfl ?_
         refine v_take (i := 26) rfl (wanted_yes rfl rfl) (y_field fa_42_1 rfl) (fun w h => ((h.anymp (.s (.s (.s (.z))))).anymp (.s (.s (.z))))) (fun w h => h) rfl (pk_seq (pk_blk (pk_seq (pk_loop (pk_blk (pk_seq pk_fn)))))) (by kernel_rfl) rfl ?_
         refine v_take (i := 27) rfl (wanted_yes rfl rfl) (y_loadrs 1 ty_28 rfl rfl rfl rfl) (fun w h => ((h.anymp (.s (.s (.s (.z))))).anymp (.s (.s (.z))))) (fun w h => h) rfl (pk_seq (pk_blk (pk_seq (pk_loop (pk_blk (pk_seq pk_fn)))))) (by kernel_rfl) rfl ?_
         refine v_one (i := 25) rfl (by kernel_rfl) rfl ?_
         refine wl_gyes rfl rfl ?_
         refine o_callp rfl ent_48 (c_entry_Key _ _ _ _ _ (by have := hbf.h; omega)) rfl ?_
         refine wl_nil ?_
         refine ev_one (fun w h => ((h.anymp (.s (.s (.s (.z))))).anymp (.s (.s (.z))))) ?_
         refine wv_as (t := 98) (.string (ba (foldN (hs.getD i hd0).host))) rfl (by rw [hfm.2]) ?_
         refine v_one (i := 28) rfl (by kernel_rfl) rfl ?_
         refine wl_gyes rfl rfl ?_
         refine o_callu rfl ent_53 rfl (c_put_d dm r2 (foldN (hs.getD i hd0).host) (hs.getD i hd0).ad) (fun o => (.s (.s (.s (.z))))) (List.mem_of_getElem? (i := 3) rfl) (fun s hs => nomatch hs) (fun o21 => ?_)
         refine wl_nil ?_
         refine ev_one (fun w h => ((h.anymp (.s (.s (.s (.z))))).anymp (.s (.s (.z))))) ?_
         refine wv_splitb (t := 101) rfl (fun h16_28 => ?_) (fun h16_28 => ?_)
         ·skip
          refine v_take (i := 29) rfl (wanted_yes rfl rfl) (y_not rfl) (fun w h => ((h.anymp (.s (.s (.s (.z))))).anymp (.s (.s (.z))))) (fun w h => h) rfl (pk_seq (pk_blk (pk_seq (pk_loop (pk_blk (pk_seq pk_fn)))))) (by kernel_rfl) rfl ?_
          refine v_take (i := 30) rfl wanted_none (y_pick_f rfl rfl) (fun w h => ((h.anymp (.s (.s (.s (.z))))).anymp (.s (.s (.z))))) (fun w h => h) rfl (pk_seq (pk_blk (pk_seq (pk_loop (pk_blk (pk_seq pk_fn)))))) (by kernel_rfl) rfl ?_
          refine v_take (i := 31) rfl wanted_none (y_move rfl) (fun w h => ((h.anymp (.s (.s (.s (.z))))).anymp (.s (.s (.z))))) (fun w h => h) rfl (pk_seq (pk_blk (pk_seq (pk_loop (pk_blk (pk_seq pk_fn)))))) (by kernel_rfl) rfl ?_
          refine v_take (i := 32) rfl (wanted_yes rfl rfl) (y_move rfl) (fun w h => ((h.anymp (.s (.s (.s (.z))))).anymp (.s (.s (.z))))) (fun w h => h) rfl (pk_seq (pk_blk (pk_seq (pk_loop (pk_blk (pk_seq pk_fn)))))) (by kernel_rfl) rfl ?_
          refine v_take (i := 33) rfl (wanted_yes rfl rfl) (y_nilCheck rfl) (fun w h => ((h.anymp (.s (.s (.s (.z))))).anymp (.s (.s (.z))))) (fun w h => h) rfl (pk_seq (pk_blk (pk_seq (pk_loop (pk_blk (pk_seq pk_fn)))))) (by kernel_rfl) rfl ?_
          refine v_take (i := 34) rfl (wanted_yes rfl rfl) (y_field fa_91_3 rfl) (fun w h => ((h.anymp (.s (.s (.s (.z))))).anymp (.s (.s (.z))))) (fun w h => h) rfl (pk_seq (pk_blk (pk_seq (pk_loop (pk_blk (pk_seq pk_fn)))))) (by kernel_rfl) rfl ?_
          refine v_take (i := 35) rfl (wanted_yes rfl rfl) (y_loadr 6 ty_89 rfl rfl rfl) (fun w h => ((h.anymp (.s (.s (.s (.z))))).anymp (.s (.s (.z))))) (fun w h => h) rfl (pk_seq (pk_blk (pk_seq (pk_loop (pk_blk (pk_seq pk_fn)))))) (by kernel_rfl) rfl ?_
          refine v_take (i := 36) rfl (wanted_yes rfl rfl) (y_field fa_42_1 rfl) (fun w h => ((h.anymp (.s (.s (.s (.z))))).anymp (.s (.s (.z))))) (fun w h => h) rfl (pk_seq (pk_blk (pk_seq (pk_loop (pk_blk (pk_seq pk_fn)))))) (by kernel_rfl) rfl ?_
          refine v_take (i := 37) rfl (wanted_yes rfl rfl) (y_loadrs 1 ty_28 rfl rfl rfl rfl) (fun w h => ((h.anymp (.s (.s (.s (.z))))).anymp (.s (.s (.z))))) (fun w h => h) rfl (pk_seq (pk_blk (pk_seq (pk_loop (pk_blk (pk_seq pk_fn)))))) (by kernel_rfl) rfl ?_
          refine v_take (i := 38) rfl (wanted_yes rfl rfl) (y_loadrs 0 ty_47 rfl rfl rfl rfl) (fun w h => ((h.anymp (.s (.s (.s (.z))))).anymp (.s (.s (.z))))) (fun w h => h) rfl (pk_seq (pk_blk (pk_seq (pk_loop (pk_blk (pk_seq pk_fn)))))) (by kernel_rfl) rfl ?_
          refine v_one (i := 39) rfl (by kernel_rfl) rfl ?_
          refine wl_gyes rfl rfl ?_
          refine o_callu rfl ent_54 rfl (c_put_a am r3 (hs.getD i hd0).ad ((lkp hm (foldN (hs.getD i hd0).host)).getD le0)) (fun o => (.s (.s (.z)))) (List.mem_of_getElem? (i := 2) rfl) (fun s hs => nomatch hs) (fun o22 => ?_)
          refine wl_nil ?_
          refine ev_one (fun w h => ((h.anymp (.s (.s (.s (.z))))).anymp (.s (.s (.z))))) ?_
          refine wv_splitb (t := 112) rfl (fun h16_39 => ?_) (fun h16_39 => ?_)
          ·skip
           refine v_take (i := 40) rfl (wanted_yes rfl rfl) (y_not rfl) (fun w h => ((h.anymp (.s (.s (.s (.z))))).anymp (.s (.s (.z))))) (fun w h => h) rfl (pk_seq (pk_blk (pk_seq (pk_loop (pk_blk (pk_seq pk_fn)))))) (by kernel_rfl) rfl ?_
           refine v_take (i := 41) rfl wanted_none (y_pick_f rfl rfl) (fun w h => ((h.anymp (.s (.s (.s (.z))))).anymp (.s (.s (.z))))) (fun w h => h) rfl (pk_seq (pk_blk (pk_seq (pk_loop (pk_blk (pk_seq pk_fn)))))) (by kernel_rfl) rfl ?_
           refine v_done (by kernel_rfl) ?_
           refine e_seq ?_
           refine w_cond_f rfl ?_
           refine w_skip ?_
           refine e_blk ?_
           refine e_seq ?_
           refine w_region ?_
           refine o_y (y_addi rfl rfl (by omega) (by omega)) rfl rfl ?_
           refine o_y (y_move rfl) rfl rfl ?_
           refine wl_nil ?_
           have hps : ∀ p ∈ hs.take i, (lkp hm (foldN p.host)).isSome = true := fun p hp => by
             obtain ⟨e, he, _⟩ := held_pre hI.2.1 hI.1 p hp
             rw [← lk_E hI8 hI9] at he
             cases hz : lkp hm (foldN p.host) with
             | none => rw [hz] at he; cases he
             | some y => rfl
           have hokh : okH (l.map (·.e)) (hs.take i) (hs.getD i hd0) := ⟨by omega, ⟨_, lk_some hI8 hI9 h15_10, by omega⟩, by omega, dm_no hI.2.2.1 (by simpa using h16_28), am_no hI.2.2.2 hps (by simpa using h16_39)⟩
           refine e_back ((i + 1, putF dm (foldN (hs.getD i hd0).host) (hs.getD i hd0).ad, putF am (hs.getD i hd0).ad ((lkp hm (foldN (hs.getD i hd0).host)).getD le0))) ?_ ?_ ⟨rfl, trivial⟩ (by repeat (first | exact trivial | refine ⟨rfl, ?_⟩)) (fun w h => h.weak (.cons _ (.cons _ (List.Sublist.refl _))) (fun s hs => hs))
           ·refine ⟨by show i + 1 ≤ _; omega, held_step hI.2.1 hokh, ?_, ?_⟩
            · show DmOk _ (hs.take (i + 1))
              rw [take_getD hs hd0 i hi]; exact dm_put hI.2.2.1 _
            · show AmOk0 _ hm (hs.take (i + 1))
              rw [take_getD hs hd0 i hi]; exact am_put hI.2.2.2 hps _ h15_10
           ·show hs.length - (i + 1) < hs.length - i
            omega
          ·skip
           refine v_take (i := 40) rfl (wanted_yes rfl rfl) (y_not rfl) (fun w h => ((h.anymp (.s (.s (.s (.z))))).anymp (.s (.s (.z))))) (fun w h => h) rfl (pk_seq (pk_blk (pk_seq (pk_loop (pk_blk (pk_seq pk_fn)))))) (by kernel_rfl) rfl ?_
           refine v_take (i := 41) rfl wanted_none (y_pick_f rfl rfl) (fun w h => ((h.anymp (.s (.s (.s (.z))))).anymp (.s (.s (.z))))) (fun w h => h) rfl (pk_seq (pk_blk (pk_seq (pk_loop (pk_blk (pk_seq pk_fn)))))) (by kernel_rfl) rfl ?_
           refine v_done (by kernel_rfl) ?_
           refine e_seq ?_
           refine w_cond_t rfl ?_
           refine w_seq ?_
           refine w_region ?_
           refine o_y (y_assign rfl) rfl rfl ?_
           refine o_y (y_assign rfl) rfl rfl ?_
           refine wl_nil ?_
           refine e_seq ?_
           refine w_ret ?_
           refine e_blk_ret ?_
           refine e_seq_ret ?_
           refine e_loop_ret ?_
           refine e_blk_ret ?_
           refine e_seq_ret ?_
           refine e_ret (ts := [4, 5]) rfl rfl rfl (fun w hw => ?_)
           have hno : ¬ HeldOk (l.map (·.e)) hs := fun H => by
             obtain ⟨q1, ⟨e, q2, q3⟩, q4, q5, q6⟩ := H i hi
             obtain ⟨p, hp, e9⟩ := am_yes hI.2.2.2 (by simpa using h16_39); exact q6 p hp e9
           exact ⟨⟨none, fun _ => hno, nofun⟩, rfl, hw.base, ((hw.weak (List.nil_sublist _) (fun s hs => hs)).rall0).toNews⟩
         ·skip
          refine v_take (i := 29) rfl (wanted_yes rfl rfl) (y_not rfl) (fun w h => ((h.anymp (.s (.s (.s (.z))))).anymp (.s (.s (.z))))) (fun w h => h) rfl (pk_seq (pk_blk (pk_seq (pk_loop (pk_blk (pk_seq pk_fn)))))) (by kernel_rfl) rfl ?_
          refine v_take (i := 30) rfl wanted_none (y_pick_f rfl rfl) (fun w h => ((h.anymp (.s (.s (.s (.z))))).anymp (.s (.s (.z))))) (fun w h => h) rfl (pk_seq (pk_blk (pk_seq (pk_loop (pk_blk (pk_seq pk_fn)))))) (by kernel_rfl) rfl ?_
          refine v_take (i := 31) rfl wanted_none (y_move rfl) (fun w h => ((h.anymp (.s (.s (.s (.z))))).anymp (.s (.s (.z))))) (fun w h => h) rfl (pk_seq (pk_blk (pk_seq (pk_loop (pk_blk (pk_seq pk_fn)))))) (by kernel_rfl) rfl ?_
          refine v_skip (i := 32) rfl (wanted_no rfl rfl rfl) (fun w h => ((h.anymp (.s (.s (.s (.z))))).anymp (.s (.s (.z))))) rfl (pk_seq (pk_blk (pk_seq (pk_loop (pk_blk (pk_seq pk_fn)))))) (by kernel_rfl) rfl ?_
          refine v_skip (i := 33) rfl (wanted_no rfl rfl rfl) (fun w h => ((h.anymp (.s (.s (.s (.z))))).anymp (.s (.s (.z))))) rfl (pk_seq (pk_blk (pk_seq (pk_loop (pk_blk (pk_seq pk_fn)))))) (by kernel_rfl) rfl ?_
          refine v_skip (i := 34) rfl (wanted_no rfl rfl rfl) (fun w h => ((h.anymp (.s (.s (.s (.z))))).anymp (.s (.s (.z))))) rfl (pk_seq (pk_blk (pk_seq (pk_loop (pk_blk (pk_seq pk_fn)))))) (by kernel_rfl) rfl ?_
          refine v_skip (i := 35) rfl (wanted_no rfl rfl rfl) (fun w h => ((h.anymp (.s (.s (.s (.z))))).anymp (.s (.s (.z))))) rfl (pk_seq (pk_blk (pk_seq (pk_loop (pk_blk (pk_seq pk_fn)))))) (by kernel_rfl) rfl ?_
          refine v_skip (i := 36) rfl (wanted_no rfl rfl rfl) (fun w h => ((h.anymp (.s (.s (.s (.z))))).anymp (.s (.s (.z))))) rfl (pk_seq (pk_blk (pk_seq (pk_loop (pk_blk (pk_seq pk_fn)))))) (by kernel_rfl) rfl ?_
          refine v_skip (i := 37) rfl (wanted_no rfl rfl rfl) (fun w h => ((h.anymp (.s (.s (.s (.z))))).anymp (.s (.s (.z))))) rfl (pk_seq (pk_blk (pk_seq (pk_loop (pk_blk (pk_seq pk_fn)))))) (by kernel_rfl) rfl ?_
          refine v_skip (i := 38) rfl (wanted_no rfl rfl rfl) (fun w h => ((h.anymp (.s (.s (.s (.z))))).anymp (.s (.s (.z))))) rfl (pk_seq (pk_blk (pk_seq (pk_loop (pk_blk (pk_seq pk_fn)))))) (by kernel_rfl) rfl ?_
          refine v_skip (i := 39) rfl (wanted_no rfl rfl rfl) (fun w h => ((h.anymp (.s (.s (.s (.z))))).anymp (.s (.s (.z))))) rfl (pk_seq (pk_blk (pk_seq (pk_loop (pk_blk (pk_seq pk_fn)))))) (by kernel_rfl) rfl ?_
          refine v_skip (i := 40) rfl (wanted_no rfl rfl rfl) (fun w h => ((h.anymp (.s (.s (.s (.z))))).anymp (.s (.s (.z))))) rfl (pk_seq (pk_blk (pk_seq (pk_loop (pk_blk (pk_seq pk_fn)))))) (by kernel_rfl) rfl ?_
          refine v_take (i := 41) rfl wanted_none (y_pick_t rfl rfl) (fun w h => ((h.anymp (.s (.s (.s (.z))))).anymp (.s (.s (.z))))) (fun w h => h) rfl (pk_seq (pk_blk (pk_seq (pk_loop (pk_blk (pk_seq pk_fn)))))) (by kernel_rfl) rfl ?_
          refine v_done (by kernel_rfl) ?_
          refine e_seq ?_
          refine w_cond_t rfl ?_
          refine w_seq ?_
          refine w_region ?_
          refine o_y (y_assign rfl) rfl rfl ?_
          refine o_y (y_assign rfl) rfl rfl ?_
          refine wl_nil ?_
          refine e_seq ?_
          refine w_ret ?_
          refine e_blk_ret ?_
          refine e_seq_ret ?_
          refine e_loop_ret ?_
          refine e_blk_ret ?_
          refine e_seq_ret ?_
          refine e_ret (ts := [4, 5]) rfl rfl rfl (fun w hw => ?_)
          have hno : ¬ HeldOk (l.map (·.e)) hs := fun H => by
            obtain ⟨q1, ⟨e, q2, q3⟩, q4, q5, q6⟩ := H i hi
            obtain ⟨p, hp, e9⟩ := dm_yes hI.2.2.1 (by simpa using h16_28); exact q5 p hp e9
          exact ⟨⟨none, fun _ => hno, nofun⟩, rfl, hw.base, ((hw.weak (List.nil_sublist _) (fun s hs => hs)).rall0).toNews⟩
     ·skip
      refine v_one (i := 12) rfl (by kernel_rfl) rfl ?_
      refine o_store ty_47 rfl rfl rfl .z rfl rfl rfl rfl ?_
      refine wl_nil ?_
      refine ev_one (fun w h => h.weak (.cons _ (List.Sublist.refl _)) (fun s hs => hs)) ?_
      refine v_one (i := 13) rfl (by kernel_rfl) rfl ?_
      refine o_y (y_assign rfl) rfl rfl ?_
      refine wl_nil ?_
      refine ev_tail rfl ?_
      refine v_done (by kernel_rfl) ?_
      refine e_seq ?_
      refine w_seq ?_
      refine w_drawVA 42 mixed (fun w h => ((h.anymp (.s (.s (.s (.z))))).anymp (.s (.s (.z))))) ?_
      refine v_take (i := 0) rfl wanted_none (y_move rfl) (fun w h => ((h.anymp (.s (.s (.s (.z))))).anymp (.s (.s (.z))))) (fun w h => h) rfl (pk_seq (pk_blk (pk_seq (pk_loop (pk_blk (pk_seq pk_fn)))))) (by kernel_rfl) rfl ?_
      refine v_take (i := 1) rfl wanted_none (y_not rfl) (fun w h => ((h.anymp (.s (.s (.s (.z))))).anymp (.s (.s (.z))))) (fun w h => h) rfl (pk_seq (pk_blk (pk_seq (pk_loop (pk_blk (pk_seq pk_fn)))))) (by kernel_rfl) rfl ?_
      refine v_take (i := 2) rfl wanted_none (y_move rfl) (fun w h => ((h.anymp (.s (.s (.s (.z))))).anymp (.s (.s (.z))))) (fun w h => h) rfl (pk_seq (pk_blk (pk_seq (pk_loop (pk_blk (pk_seq pk_fn)))))) (by kernel_rfl) rfl ?_
      refine v_skip (i := 3) rfl (wanted_no rfl rfl rfl) (fun w h => ((h.anymp (.s (.s (.s (.z))))).anymp (.s (.s (.z))))) rfl (pk_seq (pk_blk (pk_seq (pk_loop (pk_blk (pk_seq pk_fn)))))) (by kernel_rfl) rfl ?_
      refine v_skip (i := 4) rfl (wanted_no rfl rfl rfl) (fun w h => ((h.anymp (.s (.s (.s (.z))))).anymp (.s (.s (.z))))) rfl (pk_seq (pk_blk (pk_seq (pk_loop (pk_blk (pk_seq pk_fn)))))) (by kernel_rfl) rfl ?_
      refine v_skip (i := 5) rfl (wanted_no rfl rfl rfl) (fun w h => ((h.anymp (.s (.s (.s (.z))))).anymp (.s (.s (.z))))) rfl (pk_seq (pk_blk (pk_seq (pk_loop (pk_blk (pk_seq pk_fn)))))) (by kernel_rfl) rfl ?_
      refine v_skip (i := 6) rfl (wanted_no rfl rfl rfl) (fun w h => ((h.anymp (.s (.s (.s (.z))))).anymp (.s (.s (.z))))) rfl (pk_seq (pk_blk (pk_seq (pk_loop (pk_blk (pk_seq pk_fn)))))) (by kernel_rfl) rfl ?_
      refine v_take (i := 7) rfl wanted_none (y_pick_t rfl rfl) (fun w h => ((h.anymp (.s (.s (.s (.z))))).anymp (.s (.s (.z))))) (fun w h => h) rfl (pk_seq (pk_blk (pk_seq (pk_loop (pk_blk (pk_seq pk_fn)))))) (by kernel_rfl) rfl ?_
      refine v_take (i := 8) rfl wanted_none (y_move rfl) (fun w h => ((h.anymp (.s (.s (.s (.z))))).anymp (.s (.s (.z))))) (fun w h => h) rfl (pk_seq (pk_blk (pk_seq (pk_loop (pk_blk (pk_seq pk_fn)))))) (by kernel_rfl) rfl ?_
      refine v_skip (i := 9) rfl (wanted_no rfl rfl rfl) (fun w h => ((h.anymp (.s (.s (.s (.z))))).anymp (.s (.s (.z))))) rfl (pk_seq (pk_blk (pk_seq (pk_loop (pk_blk (pk_seq pk_fn)))))) (by kernel_rfl) rfl ?_
      refine v_skip (i := 10) rfl (wanted_no rfl rfl rfl) (fun w h => ((h.anymp (.s (.s (.s (.z))))).anymp (.s (.s (.z))))) rfl (pk_seq (pk_blk (pk_seq (pk_loop (pk_blk (pk_seq pk_fn)))))) (by kernel_rfl) rfl ?_
      refine v_skip (i := 11) rfl (wanted_no rfl rfl rfl) (fun w h => ((h.anymp (.s (.s (.s (.z))))).anymp (.s (.s (.z))))) rfl (pk_seq (pk_blk (pk_seq (pk_loop (pk_blk (pk_seq pk_fn)))))) (by kernel_rfl) rfl ?_
      refine v_take (i := 12) rfl wanted_none (y_pick_t rfl rfl) (fun w h => ((h.anymp (.s (.s (.s (.z))))).anymp (.s (.s (.z))))) (fun w h => h) rfl (pk_seq (pk_blk (pk_seq (pk_loop (pk_blk (pk_seq pk_fn)))))) (by kernel_rfl) rfl ?_
      refine v_take (i := 13) rfl wanted_none (y_move rfl) (fun w h => ((h.anymp (.s (.s (.s (.z))))).anymp (.s (.s (.z))))) (fun w h => h) rfl (pk_seq (pk_blk (pk_seq (pk_loop (pk_blk (pk_seq pk_fn)))))) (by kernel_rfl) rfl ?_
      refine v_skip (i := 14) rfl (wanted_no rfl rfl rfl) (fun w h => ((h.anymp (.s (.s (.s (.z))))).anymp (.s (.s (.z))))) rfl (pk_seq (pk_blk (pk_seq (pk_loop (pk_blk (pk_seq pk_fn)))))) (by kernel_rfl) rfl ?_
      refine v_skip (i := 15) rfl (wanted_no rfl rfl rfl) (fun w h => ((h.anymp (.s (.s (.s (.z))))).anymp (.s (.s (.z))))) rfl (pk_seq (pk_blk (pk_seq (pk_loop (pk_blk (pk_seq pk_fn)))))) (by kernel_rfl) rfl ?_
      refine v_skip (i := 16) rfl (wanted_no rfl rfl rfl) (fun w h => ((h.anymp (.s (.s (.s (.z))))).anymp (.s (.s (.z))))) rfl (pk_seq (pk_blk (pk_seq (pk_loop (pk_blk (pk_seq pk_fn)))))) (by kernel_rfl) rfl ?_
      refine v_skip (i := 17) rfl (wanted_no rfl rfl rfl) (fun w h => ((h.anymp (.s (.s (.s (.z))))).anymp (.s (.s (.z))))) rfl (pk_seq (pk_blk (pk_seq (pk_loop (pk_blk (pk_seq pk_fn)))))) (by kernel_rfl) rfl ?_
      refine v_take (i := 18) rfl wanted_none (y_pick_t rfl rfl) (fun w h => ((h.anymp (.s (.s (.s (.z))))).anymp (.s (.s (.z))))) (fun w h => h) rfl (pk_seq (pk_blk (pk_seq (pk_loop (pk_blk (pk_seq pk_fn)))))) (by kernel_rfl) rfl ?_
      refine v_take (i := 19) rfl wanted_none (y_move rfl) (fun w h => ((h.anymp (.s (.s (.s (.z))))).anymp (.s (.s (.z))))) (fun w h => h) rfl (pk_seq (pk_blk (pk_seq (pk_loop (pk_blk (pk_seq pk_fn)))))) (by kernel_rfl) rfl ?_
      refine v_skip (i := 20) rfl (wanted_no rfl rfl rfl) (fun w h => ((h.anymp (.s (.s (.s (.z))))).anymp (.s (.s (.z))))) rfl (pk_seq (pk_blk (pk_seq (pk_loop (pk_blk (pk_seq pk_fn)))))) (by kernel_rfl) rfl ?_
      refine v_skip (i := 21) rfl (wanted_no rfl rfl rfl) (fun w h => ((h.anymp (.s (.s (.s (.z))))).anymp (.s (.s (.z))))) rfl (pk_seq (pk_blk (pk_seq (pk_loop (pk_blk (pk_seq pk_fn)))))) (by kernel_rfl) rfl ?_
      refine v_skip (i := 22) rfl (wanted_no rfl rfl rfl) (fun w h => ((h.anymp (.s (.s (.s (.z))))).anymp (.s (.s (.z))))) rfl (pk_seq (pk_blk (pk_seq (pk_loop (pk_blk (pk_seq pk_fn)))))) (by kernel_rfl) rfl ?_
      refine v_skip (i := 23) rfl (wanted_no rfl rfl rfl) (fun w h => ((h.anymp (.s (.s (.s (.z))))).anymp (.s (.s (.z))))) rfl (pk_seq (pk_blk (pk_seq (pk_loop (pk_blk (pk_seq pk_fn)))))) (by kernel_rfl) rfl ?_
      refine v_skip (i := 24) rfl (wanted_no rfl rfl rfl) (fun w h => ((h.anymp (.s (.s (.s (.z))))).anymp (.s (.s (.z))))) rfl (pk_seq (pk_blk (pk_seq (pk_loop (pk_blk (pk_seq pk_fn)))))) (by kernel_rfl) rfl ?_
      refine v_skip (i := 26) rfl (wanted_no rfl rfl rfl) (fun w h => ((h.anymp (.s (.s (.s (.z))))).anymp (.s (.s (.z))))) rfl (pk_seq (pk_blk (pk_seq (pk_loop (pk_blk (pk_seq pk_fn)))))) (by kernel_rfl) rfl ?_
      refine v_skip (i := 27) rfl (wanted_no rfl rfl rfl) (fun w h => ((h.anymp (.s (.s (.s (.z))))).anymp (.s (.s (.z))))) rfl (pk_seq (pk_blk (pk_seq (pk_loop (pk_blk (pk_seq pk_fn)))))) (by kernel_rfl) rfl ?_
      refine v_skip (i := 25) rfl (wanted_no rfl rfl rfl) (fun w h => ((h.anymp (.s (.s (.s (.z))))).anymp (.s (.s (.z))))) rfl (pk_seq (pk_blk (pk_seq (pk_loop (pk_blk (pk_seq pk_fn)))))) (by kernel_rfl) rfl ?_
      refine v_skip (i := 28) rfl (wanted_no rfl rfl rfl) (fun w h => ((h.anymp (.s (.s (.s (.z))))).anymp (.s (.s (.z))))) rfl (pk_seq (pk_blk (pk_seq (pk_loop (pk_blk (pk_seq pk_fn)))))) (by kernel_rfl) rfl ?_
      refine v_skip (i := 29) rfl (wanted_no rfl rfl rfl) (fun w h => ((h.anymp (.s (.s (.s (.z))))).anymp (.s (.s (.z))))) rfl (pk_seq (pk_blk (pk_seq (pk_loop (pk_blk (pk_seq pk_fn)))))) (by kernel_rfl) rfl ?_
      refine v_take (i := 30) rfl wanted_none (y_pick_t rfl rfl) (fun w h => ((h.anymp (.s (.s (.s (.z))))).anymp (.s (.s (.z))))) (fun w h => h) rfl (pk_seq (pk_blk (pk_seq (pk_loop (pk_blk (pk_seq pk_fn)))))) (by kernel_rfl) rfl ?_
      refine v_take (i := 31) rfl wanted_none (y_move rfl) (fun w h => ((h.anymp (.s (.s (.s (.z))))).anymp (.s (.s (.z))))) (fun w h => h) rfl (pk_seq (pk_blk (pk_seq (pk_loop (pk_blk (pk_seq pk_fn)))))) (by kernel_rfl) rfl ?_
      refine v_skip (i := 32) rfl (wanted_no rfl rfl rfl) (fun w h => ((h.anymp (.s (.s (.s (.z))))).anymp (.s (.s (.z))))) rfl (pk_seq (pk_blk (pk_seq (pk_loop (pk_blk (pk_seq pk_fn)))))) (by kernel_rfl) rfl ?_
      refine v_skip (i := 33) rfl (wanted_no rfl rfl rfl) (fun w h => ((h.anymp (.s (.s (.s (.z))))).anymp (.s (.s (.z))))) rfl (pk_seq (pk_blk (pk_seq (pk_loop (pk_blk (pk_seq pk_fn)))))) (by kernel_rfl) rfl ?_
      refine v_skip (i := 34) rfl (wanted_no rfl rfl rfl) (fun w h => ((h.anymp (.s (.s (.s (.z))))).anymp (.s (.s (.z))))) rfl (pk_seq (pk_blk (pk_seq (pk_loop (pk_blk (pk_seq pk_fn)))))) (by kernel_rfl) rfl ?_
      refine v_skip (i := 35) rfl (wanted_no rfl rfl rfl) (fun w h => ((h.anymp (.s (.s (.s (.z))))).anymp (.s (.s (.z))))) rfl (pk_seq (pk_blk (pk_seq (pk_loop (pk_blk (pk_seq pk_fn)))))) (by kernel_rfl) rfl ?_
      refine v_skip (i := 36) rfl (wanted_no rfl rfl rfl) (fun w h => ((h.anymp (.s (.s (.s (.z))))).anymp (.s (.s (.z))))) rfl (pk_seq (pk_blk (pk_seq (pk_loop (pk_blk (pk_seq pk_fn)))))) (by kernel_rfl) rfl ?_
      refine v_skip (i := 37) rfl (wanted_no rfl rfl rfl) (fun w h => ((h.anymp (.s (.s (.s (.z))))).anymp (.s (.s (.z))))) rfl (pk_seq (pk_blk (pk_seq (pk_loop (pk_blk (pk_seq pk_fn)))))) (by kernel_rfl) rfl ?_
      refine v_skip (i := 38) rfl (wanted_no rfl rfl rfl) (fun w h => ((h.anymp (.s (.s (.s (.z))))).anymp (.s (.s (.z))))) rfl (pk_seq (pk_blk (pk_seq (pk_loop (pk_blk (pk_seq pk_fn)))))) (by kernel_rfl) rfl ?_
      refine v_skip (i := 39) rfl (wanted_no rfl rfl rfl) (fun w h => ((h.anymp (.s (.s (.s (.z))))).anymp (.s (.s (.z))))) rfl (pk_seq (pk_blk (pk_seq (pk_loop (pk_blk (pk_seq pk_fn)))))) (by kernel_rfl) rfl ?_
      refine v_skip (i := 40) rfl (wanted_no rfl rfl rfl) (fun w h => ((h.anymp (.s (.s (.s (.z))))).anymp (.s (.s (.z))))) rfl (pk_seq (pk_blk (pk_seq (pk_loop (pk_blk (pk_seq pk_fn)))))) (by kernel_rfl) rfl ?_
      refine v_take (i := 41) rfl wanted_none (y_pick_t rfl rfl) (fun w h => ((h.anymp (.s (.s (.s (.z))))).anymp (.s (.s (.z))))) (fun w h => h) rfl (pk_seq (pk_blk (pk_seq (pk_loop (pk_blk (pk_seq pk_fn)))))) (by kernel_rfl) rfl ?_
      refine v_done (by kernel_rfl) ?_
      refine e_seq ?_
      refine w_cond_t rfl ?_
      refine w_seq ?_
      refine w_region ?_
      refine o_y (y_assign rfl) rfl rfl ?_
      refine o_y (y_assign rfl) rfl rfl ?_
      refine wl_nil ?_
      refine e_seq ?_
      refine w_ret ?_
      refine e_blk_ret ?_
      refine e_seq_ret ?_
      refine e_loop_ret ?_
      refine e_blk_ret ?_
      refine e_seq_ret ?_
      refine e_ret (ts := [4, 5]) rfl rfl rfl (fun w hw => ?_)
      have hno : ¬ HeldOk (l.map (·.e)) hs := fun H => by
        obtain ⟨q1, ⟨e, q2, q3⟩, q4, q5, q6⟩ := H i hi
        rw [← lk_E hI8 hI9, none_of h15_10] at q2; cases q2
      exact ⟨⟨none, fun _ => hno, nofun⟩, rfl, hw.base, ((hw.weak (List.nil_sublist _) (fun s hs => hs)).rall0).toNews⟩
    exact wrv_nil
   refine wrv_cons (i := 11) rfl rfl ?_ ?_
   ·skip
    refine o_alloc ty_47 rfl rfl (fun b24 => ?_)
    refine wl_nil ?_
    refine ev_one (fun w h => h.weak (.cons _ (List.Sublist.refl _)) (fun s hs => hs)) ?_
    refine v_one (i := 6) rfl (by kernel_rfl) rfl ?_
    refine o_callp rfl ent_50 (p_name_Fold _ (by omega)) rfl ?_
    refine wl_nil ?_
    refine ev_one (fun w h => h.weak (.cons _ (List.Sublist.refl _)) (fun s hs => hs)) ?_
    refine v_one (i := 7) rfl (by kernel_rfl) rfl ?_
    refine o_callq rfl ent_49 rfl (c_ask_h hm r1 _) (fun w hw => (rd_cons (rd_L 7 rfl hw) rd_nil)) ?_
    refine wl_nil ?_
    refine ev_one (fun w h => h.weak (.cons _ (List.Sublist.refl _)) (fun s hs => hs)) ?_
    refine v_take (i := 8) rfl wanted_none (y_move rfl) (fun w h => h.weak (.cons _ (List.Sublist.refl _)) (fun s hs => hs)) (fun w h => h) rfl (pk_seq (pk_blk (pk_seq (pk_loop (pk_blk (pk_seq pk_fn)))))) (by kernel_rfl) rfl ?_
    refine v_take (i := 9) rfl wanted_none (y_extract rfl rfl) (fun w h => h.weak (.cons _ (List.Sublist.refl _)) (fun s hs => hs)) (fun w h => h) rfl (pk_seq (pk_blk (pk_seq (pk_loop (pk_blk (pk_seq pk_fn)))))) (by kernel_rfl) rfl ?_
    refine v_take (i := 10) rfl wanted_none (y_extract rfl rfl) (fun w h => h.weak (.cons _ (List.Sublist.refl _)) (fun s hs => hs)) (fun w h => h) rfl (pk_seq (pk_blk (pk_seq (pk_loop (pk_blk (pk_seq pk_fn)))))) (by kernel_rfl) rfl ?_
    refine wv_splitb (t := 72) rfl (fun h15_10 => ?_) (fun h15_10 => ?_)
    ·skip
     have hfm := hm_some hI8 h15_10
     have hbf := es_bnd hI9 hok hfm.1
     refine v_one (i := 12) rfl (by kernel_rfl) rfl ?_
     refine o_store ty_47 rfl rfl rfl .z rfl rfl rfl rfl ?_
     refine wl_nil ?_
     refine ev_one (fun w h => h.weak (.cons _ (List.Sublist.refl _)) (fun s hs => hs)) ?_
     refine v_one (i := 13) rfl (by kernel_rfl) rfl ?_
     refine o_y (y_assign rfl) rfl rfl ?_
     refine wl_nil ?_
     refine ev_tail rfl ?_
     refine v_done (by kernel_rfl) ?_
     refine e_seq ?_
     refine w_seq ?_
     refine w_drawVA 42 mixed (fun w h => ((h.anymp (.s (.s (.s (.z))))).anymp (.s (.s (.z))))) ?_
     refine v_take (i := 0) rfl wanted_none (y_move rfl) (fun w h => ((h.anymp (.s (.s (.s (.z))))).anymp (.s (.s (.z))))) (fun w h => h) rfl (pk_seq (pk_blk (pk_seq (pk_loop (pk_blk (pk_seq pk_fn)))))) (by kernel_rfl) rfl ?_
     refine v_take (i := 1) rfl wanted_none (y_not rfl) (fun w h => ((h.anymp (.s (.s (.s (.z))))).anymp (.s (.s (.z))))) (fun w h => h) rfl (pk_seq (pk_blk (pk_seq (pk_loop (pk_blk (pk_seq pk_fn)))))) (by kernel_rfl) rfl ?_
     refine v_take (i := 2) rfl wanted_none (y_move rfl) (fun w h => ((h.anymp (.s (.s (.s (.z))))).anymp (.s (.s (.z))))) (fun w h => h) rfl (pk_seq (pk_blk (pk_seq (pk_loop (pk_blk (pk_seq pk_fn)))))) (by kernel_rfl) rfl ?_
     refine v_take (i := 3) rfl (wanted_yes rfl rfl) (y_field fa_42_0 rfl) (fun w h => ((h.anymp (.s (.s (.s (.z))))).anymp (.s (.s (.z))))) (fun w h => h) rfl (pk_seq (pk_blk (pk_seq (pk_loop (pk_blk (pk_seq pk_fn)))))) (by kernel_rfl) rfl ?_
     refine v_take (i := 4) rfl (wanted_yes rfl rfl) (y_loadr 1 ty_36 rfl rfl rfl) (fun w h => ((h.anymp (.s (.s (.s (.z))))).anymp (.s (.s (.z))))) (fun w h => h) rfl (pk_seq (pk_blk (pk_seq (pk_loop (pk_blk (pk_seq pk_fn)))))) (by kernel_rfl) rfl ?_
     refine v_one (i := 5) rfl (by kernel_rfl) rfl ?_
     refine wl_gyes rfl rfl ?_
     refine o_callp rfl ent_51 (c_name_Check _) rfl ?_
     refine wl_nil ?_
     refine ev_one (fun w h => ((h.anymp (.s (.s (.s (.z))))).anymp (.s (.s (.z))))) ?_
     refine v_take (i := 6) rfl (wanted_yes rfl rfl) (y_neq rfl rfl) (fun w h => ((h.anymp (.s (.s (.s (.z))))).anymp (.s (.s (.z))))) (fun w h => h) rfl (pk_seq (pk_blk (pk_seq (pk_loop (pk_blk (pk_seq pk_fn)))))) (by kernel_rfl) rfl ?_
     refine wv_splitp (t := 79) rfl (fun h16_6 => ?_) (fun h16_6 => ?_)
     ·skip
      refine v_take (i := 7) rfl wanted_none (y_pick_f rfl rfl) (fun w h => ((h.anymp (.s (.s (.s (.z))))).anymp (.s (.s (.z))))) (fun w h => h) rfl (pk_seq (pk_blk (pk_seq (pk_loop (pk_blk (pk_seq pk_fn)))))) (by kernel_rfl) rfl ?_
      refine v_take (i := 8) rfl wanted_none (y_move rfl) (fun w h => ((h.anymp (.s (.s (.s (.z))))).anymp (.s (.s (.z))))) (fun w h => h) rfl (pk_seq (pk_blk (pk_seq (pk_loop (pk_blk (pk_seq pk_fn)))))) (by kernel_rfl) rfl ?_
      refine v_skip (i := 9) rfl (wanted_no rfl rfl rfl) (fun w h => ((h.anymp (.s (.s (.s (.z))))).anymp (.s (.s (.z))))) rfl (pk_seq (pk_blk (pk_seq (pk_loop (pk_blk (pk_seq pk_fn)))))) (by kernel_rfl) rfl ?_
      refine v_skip (i := 10) rfl (wanted_no rfl rfl rfl) (fun w h => ((h.anymp (.s (.s (.s (.z))))).anymp (.s (.s (.z))))) rfl (pk_seq (pk_blk (pk_seq (pk_loop (pk_blk (pk_seq pk_fn)))))) (by kernel_rfl) rfl ?_
      refine v_skip (i := 11) rfl (wanted_no rfl rfl rfl) (fun w h => ((h.anymp (.s (.s (.s (.z))))).anymp (.s (.s (.z))))) rfl (pk_seq (pk_blk (pk_seq (pk_loop (pk_blk (pk_seq pk_fn)))))) (by kernel_rfl) rfl ?_
      refine v_take (i := 12) rfl wanted_none (y_pick_t rfl rfl) (fun w h => ((h.anymp (.s (.s (.s (.z))))).anymp (.s (.s (.z))))) (fun w h => h) rfl (pk_seq (pk_blk (pk_seq (pk_loop (pk_blk (pk_seq pk_fn)))))) (by kernel_rfl) rfl ?_
      refine v_take (i := 13) rfl wanted_none (y_move rfl) (fun w h => ((h.anymp (.s (.s (.s (.z))))).anymp (.s (.s (.z))))) (fun w h => h) rfl (pk_seq (pk_blk (pk_seq (pk_loop (pk_blk (pk_seq pk_fn)))))) (by kernel_rfl) rfl ?_
      refine v_skip (i := 14) rfl (wanted_no rfl rfl rfl) (fun w h => ((h.anymp (.s (.s (.s (.z))))).anymp (.s (.s (.z))))) rfl (pk_seq (pk_blk (pk_seq (pk_loop (pk_blk (pk_seq pk_fn)))))) (by kernel_rfl) rfl ?_
      refine v_skip (i := 15) rfl (wanted_no rfl rfl rfl) (fun w h => ((h.anymp (.s (.s (.s (.z))))).anymp (.s (.s (.z))))) rfl (pk_seq (pk_blk (pk_seq (pk_loop (pk_blk (pk_seq pk_fn)))))) (by kernel_rfl) rfl ?_
      refine v_skip (i := 16) rfl (wanted_no rfl rfl rfl) (fun w h => ((h.anymp (.s (.s (.s (.z))))).anymp (.s (.s (.z))))) rfl (pk_seq (pk_blk (pk_seq (pk_loop (pk_blk (pk_seq pk_fn)))))) (by kernel_rfl) rfl ?_
      refine v_skip (i := 17) rfl (wanted_no rfl rfl rfl) (fun w h => ((h.anymp (.s (.s (.s (.z))))).anymp (.s (.s (.z))))) rfl (pk_seq (pk_blk (pk_seq (pk_loop (pk_blk (pk_seq pk_fn)))))) (by kernel_rfl) rfl ?_
      refine v_take (i := 18) rfl wanted_none (y_pick_t rfl rfl) (fun w h => ((h.anymp (.s (.s (.s (.z))))).anymp (.s (.s (.z))))) (fun w h => h) rfl (pk_seq (pk_blk (pk_seq (pk_loop (pk_blk (pk_seq pk_fn)))))) (by kernel_rfl) rfl ?_
      refine v_take (i := 19) rfl wanted_none (y_move rfl) (fun w h => ((h.anymp (.s (.s (.s (.z))))).anymp (.s (.s (.z))))) (fun w h => h) rfl (pk_seq (pk_blk (pk_seq (pk_loop (pk_blk (pk_seq pk_fn)))))) (by kernel_rfl) rfl ?_
      refine v_skip (i := 20) rfl (wanted_no rfl rfl rfl) (fun w h => ((h.anymp (.s (.s (.s (.z))))).anymp (.s (.s (.z))))) rfl (pk_seq (pk_blk (pk_seq (pk_loop (pk_blk (pk_seq pk_fn)))))) (by kernel_rfl) rfl ?_
      refine v_skip (i := 21) rfl (wanted_no rfl rfl rfl) (fun w h => ((h.anymp (.s (.s (.s (.z))))).anymp (.s (.s (.z))))) rfl (pk_seq (pk_blk (pk_seq (pk_loop (pk_blk (pk_seq pk_fn)))))) (by kernel_rfl) rfl ?_
      refine v_skip (i := 22) rfl (wanted_no rfl rfl rfl) (fun w h => ((h.anymp (.s (.s (.s (.z))))).anymp (.s (.s (.z))))) rfl (pk_seq (pk_blk (pk_seq (pk_loop (pk_blk (pk_seq pk_fn)))))) (by kernel_rfl) rfl ?_
      refine v_skip (i := 23) rfl (wanted_no rfl rfl rfl) (fun w h => ((h.anymp (.s (.s (.s (.z))))).anymp (.s (.s (.z))))) rfl (pk_seq (pk_blk (pk_seq (pk_loop (pk_blk (pk_seq pk_fn)))))) (by kernel_rfl) rfl ?_
      refine v_skip (i := 24) rfl (wanted_no rfl rfl rfl) (fun w h => ((h.anymp (.s (.s (.s (.z))))).anymp (.s (.s (.z))))) rfl (pk_seq (pk_blk (pk_seq (pk_loop (pk_blk (pk_seq pk_fn)))))) (by kernel_rfl) rfl ?_
      refine v_skip (i := 26) rfl (wanted_no rfl rfl rfl) (fun w h => ((h.anymp (.s (.s (.s (.z))))).anymp (.s (.s (.z))))) rfl (pk_seq (pk_blk (pk_seq (pk_loop (pk_blk (pk_seq pk_fn)))))) (by kernel_rfl) rfl ?_
      refine v_skip (i := 27) rfl (wanted_no rfl rfl rfl) (fun w h => ((h.anymp (.s (.s (.s (.z))))).anymp (.s (.s (.z))))) rfl (pk_seq (pk_blk (pk_seq (pk_loop (pk_blk (pk_seq pk_fn)))))) (by kernel_rfl) rfl ?_
      refine v_skip (i := 25) rfl (wanted_no rfl rfl rfl) (fun w h => ((h.anymp (.s (.s (.s (.z))))).anymp (.s (.s (.z))))) rfl (pk_seq (pk_blk (pk_seq (pk_loop (pk_blk (pk_seq pk_fn)))))) (by kernel_rfl) rfl ?_
      refine v_skip (i := 28) rfl (wanted_no rfl rfl rfl) (fun w h => ((h.anymp (.s (.s (.s (.z))))).anymp (.s (.s (.z))))) rfl (pk_seq (pk_blk (pk_seq (pk_loop (pk_blk (pk_seq pk_fn)))))) (by kernel_rfl) rfl ?_
      refine v_skip (i := 29) rfl (wanted_no rfl rfl rfl) (fun w h => ((h.anymp (.s (.s (.s (.z))))).anymp (.s (.s (.z))))) rfl (pk_seq (pk_blk (pk_seq (pk_loop (pk_blk (pk_seq pk_fn)))))) (by kernel_rfl) rfl ?_
      refine v_take (i := 30) rfl wanted_none (y_pick_t rfl rfl) (fun w h => ((h.anymp (.s (.s (.s (.z))))).anymp (.s (.s (.z))))) (fun w h => h) rfl (pk_seq (pk_blk (pk_seq (pk_loop (pk_blk (pk_seq pk_fn)))))) (by kernel_rfl) rfl ?_
      refine v_take (i := 31) rfl wanted_none (y_move rfl) (fun w h => ((h.anymp (.s (.s (.s (.z))))).anymp (.s (.s (.z))))) (fun w h => h) rfl (pk_seq (pk_blk (pk_seq (pk_loop (pk_blk (pk_seq pk_fn)))))) (by kernel_rfl) rfl ?_
      refine v_skip (i := 32) rfl (wanted_no rfl rfl rfl) (fun w h => ((h.anymp (.s (.s (.s (.z))))).anymp (.s (.s (.z))))) rfl (pk_seq (pk_blk (pk_seq (pk_loop (pk_blk (pk_seq pk_fn)))))) (by kernel_rfl) rfl ?_
      refine v_skip (i := 33) rfl (wanted_no rfl rfl rfl) (fun w h => ((h.anymp (.s (.s (.s (.z))))).anymp (.s (.s (.z))))) rfl (pk_seq (pk_blk (pk_seq (pk_loop (pk_blk (pk_seq pk_fn)))))) (by kernel_rfl) rfl ?_
      refine v_skip (i := 34) rfl (wanted_no rfl rfl rfl) (fun w h => ((h.anymp (.s (.s (.s (.z))))).anymp (.s (.s (.z))))) rfl (pk_seq (pk_blk (pk_seq (pk_loop (pk_blk (pk_seq pk_fn)))))) (by kernel_rfl) rfl ?_
      refine v_skip (i := 35) rfl (wanted_no rfl rfl rfl) (fun w h => ((h.anymp (.s (.s (.s (.z))))).anymp (.s (.s (.z))))) rfl (pk_seq (pk_blk (pk_seq (pk_loop (pk_blk (pk_seq pk_fn)))))) (by kernel_rfl) rfl ?_
      refine v_skip (i := 36) rfl (wanted_no rfl rfl rfl) (fun w h => ((h.anymp (.s (.s (.s (.z))))).anymp (.s (.s (.z))))) rfl (pk_seq (pk_blk (pk_seq (pk_loop (pk_blk (pk_seq pk_fn)))))) (by kernel_rfl) rfl ?_
      refine v_skip (i := 37) rfl (wanted_no rfl rfl rfl) (fun w h => ((h.anymp (.s (.s (.s (.z))))).anymp (.s (.s (.z))))) rfl (pk_seq (pk_blk (pk_seq (pk_loop (pk_blk (pk_seq pk_fn)))))) (by kernel_rfl) rfl ?_
      refine v_skip (i := 38) rfl (wanted_no rfl rfl rfl) (fun w h => ((h.anymp (.s (.s (.s (.z))))).anymp (.s (.s (.z))))) rfl (pk_seq (pk_blk (pk_seq (pk_loop (pk_blk (pk_seq pk_fn)))))) (by kernel_rfl) rfl ?_
      refine v_skip (i := 39) rfl (wanted_no rfl rfl rfl) (fun w h => ((h.anymp (.s (.s (.s (.z))))).anymp (.s (.s (.z))))) rfl (pk_seq (pk_blk (pk_seq (pk_loop (pk_blk (pk_seq pk_fn)))))) (by kernel_rfl) rfl ?_
      refine v_skip (i := 40) rfl (wanted_no rfl rfl rfl) (fun w h => ((h.anymp (.s (.s (.s (.z))))).anymp (.s (.s (.z))))) rfl (pk_seq (pk_blk (pk_seq (pk_loop (pk_blk (pk_seq pk_fn)))))) (by kernel_rfl) rfl ?_
      refine v_take (i := 41) rfl wanted_none (y_pick_t rfl rfl) (fun w h => ((h.anymp (.s (.s (.s (.z))))).anymp (.s (.s (.z))))) (fun w h => h) rfl (pk_seq (pk_blk (pk_seq (pk_loop (pk_blk (pk_seq pk_fn)))))) (by kernel_rfl) rfl ?_
      refine v_done (by kernel_rfl) ?_
      refine e_seq ?_
      refine w_cond_t rfl ?_
      refine w_seq ?_
      refine w_region ?_
      refine o_y (y_assign rfl) rfl rfl ?_
      refine o_y (y_assign rfl) rfl rfl ?_
      refine wl_nil ?_
      refine e_seq ?_
      refine w_ret ?_
      refine e_blk_ret ?_
      refine e_seq_ret ?_
      refine e_loop_ret ?_
      refine e_blk_ret ?_
      refine e_seq_ret ?_
      refine e_ret (ts := [4, 5]) rfl rfl rfl (fun w hw => ?_)
      have hno : ¬ HeldOk (l.map (·.e)) hs := fun H => by
        obtain ⟨q1, ⟨e, q2, q3⟩, q4, q5, q6⟩ := H i hi
        exact h16_6 q1
      exact ⟨⟨none, fun _ => hno, nofun⟩, rfl, hw.base, ((hw.weak (List.nil_sublist _) (fun s hs => hs)).rall0).toNews⟩
     ·skip
      refine v_take (i := 7) rfl wanted_none (y_pick_f rfl rfl) (fun w h => ((h.anymp (.s (.s (.s (.z))))).anymp (.s (.s (.z))))) (fun w h => h) rfl (pk_seq (pk_blk (pk_seq (pk_loop (pk_blk (pk_seq pk_fn)))))) (by kernel_rfl) rfl ?_
      refine v_take (i := 8) rfl wanted_none (y_move rfl) (fun w h => ((h.anymp (.s (.s (.s (.z))))).anymp (.s (.s (.z))))) (fun w h => h) rfl (pk_seq (pk_blk (pk_seq (pk_loop (pk_blk (pk_seq pk_fn)))))) (by kernel_rfl) rfl ?_
      refine v_take (i := 9) rfl (wanted_yes rfl rfl) (y_field fa_47_1 rfl) (fun w h => ((h.anymp (.s (.s (.s (.z))))).anymp (.s (.s (.z))))) (fun w h => h) rfl (pk_seq (pk_blk (pk_seq (pk_loop (pk_blk (pk_seq pk_fn)))))) (by kernel_rfl) rfl ?_
      refine v_take (i := 10) rfl (wanted_yes rfl rfl) (y_loadr 0 ty_3 rfl rfl rfl) (fun w h => ((h.anymp (.s (.s (.s (.z))))).anymp (.s (.s (.z))))) (fun w h => h) rfl (pk_seq (pk_blk (pk_seq (pk_loop (pk_blk (pk_seq pk_fn)))))) (by kernel_rfl) rfl ?_
      refine v_take (i := 11) rfl (wanted_yes rfl rfl) (y_neq rfl rfl) (fun w h => ((h.anymp (.s (.s (.s (.z))))).anymp (.s (.s (.z))))) (fun w h => h) rfl (pk_seq (pk_blk (pk_seq (pk_loop (pk_blk (pk_seq pk_fn)))))) (by kernel_rfl) rfl ?_
      refine wv_splitp (t := 84) rfl (fun h16_11 => ?_) (fun h16_11 => ?_)
      ·skip
       refine v_take (i := 12) rfl wanted_none (y_pick_f rfl rfl) (fun w h => ((h.anymp (.s (.s (.s (.z))))).anymp (.s (.s (.z))))) (fun w h => h) rfl (pk_seq (pk_blk (pk_seq (pk_loop (pk_blk (pk_seq pk_fn)))))) (by kernel_rfl) rfl ?_
       refine v_take (i := 13) rfl wanted_none (y_move rfl) (fun w h => ((h.anymp (.s (.s (.s (.z))))).anymp (.s (.s (.z))))) (fun w h => h) rfl (pk_seq (pk_blk (pk_seq (pk_loop (pk_blk (pk_seq pk_fn)))))) (by kernel_rfl) rfl ?_
       refine v_skip (i := 14) rfl (wanted_no rfl rfl rfl) (fun w h => ((h.anymp (.s (.s (.s (.z))))).anymp (.s (.s (.z))))) rfl (pk_seq (pk_blk (pk_seq (pk_loop (pk_blk (pk_seq pk_fn)))))) (by kernel_rfl) rfl ?_
       refine v_skip (i := 15) rfl (wanted_no rfl rfl rfl) (fun w h => ((h.anymp (.s (.s (.s (.z))))).anymp (.s (.s (.z))))) rfl (pk_seq (pk_blk (pk_seq (pk_loop (pk_blk (pk_seq pk_fn)))))) (by kernel_rfl) rfl ?_
       refine v_skip (i := 16) rfl (wanted_no rfl rfl rfl) (fun w h => ((h.anymp (.s (.s (.s (.z))))).anymp (.s (.s (.z))))) rfl (pk_seq (pk_blk (pk_seq (pk_loop (pk_blk (pk_seq pk_fn)))))) (by kernel_rfl) rfl ?_
       refine v_skip (i := 17) rfl (wanted_no rfl rfl rfl) (fun w h => ((h.anymp (.s (.s (.s (.z))))).anymp (.s (.s (.z))))) rfl (pk_seq (pk_blk (pk_seq (pk_loop (pk_blk (pk_seq pk_fn)))))) (by kernel_rfl) rfl ?_
       refine v_take (i := 18) rfl wanted_none (y_pick_t rfl rfl) (fun w h => ((h.anymp (.s (.s (.s (.z))))).anymp (.s (.s (.z))))) (fun w h => h) rfl (pk_seq (pk_blk (pk_seq (pk_loop (pk_blk (pk_seq pk_fn)))))) (by kernel_rfl) rfl ?_
       refine v_take (i := 19) rfl wanted_none (y_move rfl) (fun w h => ((h.anymp (.s (.s (.s (.z))))).anymp (.s (.s (.z))))) (fun w h => h) rfl (pk_seq (pk_blk (pk_seq (pk_loop (pk_blk (pk_seq pk_fn)))))) (by kernel_rfl) rfl ?_
       refine v_skip (i := 20) rfl (wanted_no rfl rfl rfl) (fun w h => ((h.anymp (.s (.s (.s (.z))))).anymp (.s (.s (.z))))) rfl (pk_seq (pk_blk (pk_seq (pk_loop (pk_blk (pk_seq pk_fn)))))) (by kernel_rfl) rfl ?_
       refine v_skip (i := 21) rfl (wanted_no rfl rfl rfl) (fun w h => ((h.anymp (.s (.s (.s (.z))))).anymp (.s (.s (.z))))) rfl (pk_seq (pk_blk (pk_seq (pk_loop (pk_blk (pk_seq pk_fn)))))) (by kernel_rfl) rfl ?_
       refine v_skip (i := 22) rfl (wanted_no rfl rfl rfl) (fun w h => ((h.anymp (.s (.s (.s (.z))))).anymp (.s (.s (.z))))) rfl (pk_seq (pk_blk (pk_seq (pk_loop (pk_blk (pk_seq pk_fn)))))) (by kernel_rfl) rfl ?_
       refine v_skip (i := 23) rfl (wanted_no rfl rfl rfl) (fun w h => ((h.anymp (.s (.s (.s (.z))))).anymp (.s (.s (.z))))) rfl (pk_seq (pk_blk (pk_seq (pk_loop (pk_blk (pk_seq pk_fn)))))) (by kernel_rfl) rfl ?_
       refine v_skip (i := 24) rfl (wanted_no rfl rfl rfl) (fun w h => ((h.anymp (.s (.s (.s (.z))))).anymp (.s (.s (.z))))) rfl (pk_seq (pk_blk (pk_seq (pk_loop (pk_blk (pk_seq pk_fn)))))) (by kernel_rfl) rfl ?_
       refine v_skip (i := 26) rfl (wanted_no rfl rfl rfl) (fun w h => ((h.anymp (.s (.s (.s (.z))))).anymp (.s (.s (.z))))) rfl (pk_seq (pk_blk (pk_seq (pk_loop (pk_blk (pk_seq pk_fn)))))) (by kernel_rfl) rfl ?_
       refine v_skip (i := 27) rfl (wanted_no rfl rfl rfl) (fun w h => ((h.anymp (.s (.s (.s (.z))))).anymp (.s (.s (.z))))) rfl (pk_seq (pk_blk (pk_seq (pk_loop (pk_blk (pk_seq pk_fn)))))) (by kernel_rfl) rfl ?_
       refine v_skip (i := 25) rfl (wanted_no rfl rfl rfl) (fun w h => ((h.anymp (.s (.s (.s (.z))))).anymp (.s (.s (.z))))) rfl (pk_seq (pk_blk (pk_seq (pk_loop (pk_blk (pk_seq pk_fn)))))) (by kernel_rfl) rfl ?_
       refine v_skip (i := 28) rfl (wanted_no rfl rfl rfl) (fun w h => ((h.anymp (.s (.s (.s (.z))))).anymp (.s (.s (.z))))) rfl (pk_seq (pk_blk (pk_seq (pk_loop (pk_blk (pk_seq pk_fn)))))) (by kernel_rfl) rfl ?_
       refine v_skip (i := 29) rfl (wanted_no rfl rfl rfl) (fun w h => ((h.anymp (.s (.s (.s (.z))))).anymp (.s (.s (.z))))) rfl (pk_seq (pk_blk (pk_seq (pk_loop (pk_blk (pk_seq pk_fn)))))) (by kernel_rfl) rfl ?_
       refine v_take (i := 30) rfl wanted_none (y_pick_t rfl rfl) (fun w h => ((h.anymp (.s (.s (.s (.z))))).anymp (.s (.s (.z))))) (fun w h => h) rfl (pk_seq (pk_blk (pk_seq (pk_loop (pk_blk (pk_seq pk_fn)))))) (by kernel_rfl) rfl ?_
       refine v_take (i := 31) rfl wanted_none (y_move rfl) (fun w h => ((h.anymp (.s (.s (.s (.z))))).anymp (.s (.s (.z))))) (fun w h => h) rfl (pk_seq (pk_blk (pk_seq (pk_loop (pk_blk (pk_seq pk_fn)))))) (by kernel_rfl) rfl ?_
       refine v_skip (i := 32) rfl (wanted_no rfl rfl rfl) (fun w h => ((h.anymp (.s (.s (.s (.z))))).anymp (.s (.s (.z))))) rfl (pk_seq (pk_blk (pk_seq (pk_loop (pk_blk (pk_seq pk_fn)))))) (by kernel_rfl) rfl ?_
       refine v_skip (i := 33) rfl (wanted_no rfl rfl rfl) (fun w h => ((h.anymp (.s (.s (.s (.z))))).anymp (.s (.s (.z))))) rfl (pk_seq (pk_blk (pk_seq (pk_loop (pk_blk (pk_seq pk_fn)))))) (by kernel_rfl) rfl ?_
       refine v_skip (i := 34) rfl (wanted_no rfl rfl rfl) (fun w h => ((h.anymp (.s (.s (.s (.z))))).anymp (.s (.s (.z))))) rfl (pk_seq (pk_blk (pk_seq (pk_loop (pk_blk (pk_seq pk_fn)))))) (by kernel_rfl) rfl ?_
       refine v_skip (i := 35) rfl (wanted_no rfl rfl rfl) (fun w h => ((h.anymp (.s (.s (.s (.z))))).anymp (.s (.s (.z))))) rfl (pk_seq (pk_blk (pk_seq (pk_loop (pk_blk (pk_seq pk_fn)))))) (by kernel_rfl) rfl ?_
       refine v_skip (i := 36) rfl (wanted_no rfl rfl rfl) (fun w h => ((h.anymp (.s (.s (.s (.z))))).anymp (.s (.s (.z))))) rfl (pk_seq (pk_blk (pk_seq (pk_loop (pk_blk (pk_seq pk_fn)))))) (by kernel_rfl) rfl ?_
       refine v_skip (i := 37) rfl (wanted_no rfl rfl rfl) (fun w h => ((h.anymp (.s (.s (.s (.z))))).anymp (.s (.s (.z))))) rfl (pk_seq (pk_blk (pk_seq (pk_loop (pk_blk (pk_seq pk_fn)))))) (by kernel_rfl) rfl ?_
       refine v_skip (i := 38) rfl (wanted_no rfl rfl rfl) (fun w h => ((h.anymp (.s (.s (.s (.z))))).anymp (.s (.s (.z))))) rfl (pk_seq (pk_blk (pk_seq (pk_loop (pk_blk (pk_seq pk_fn)))))) (by kernel_rfl) rfl ?_
       refine v_skip (i := 39) rfl (wanted_no rfl rfl rfl) (fun w h => ((h.anymp (.s (.s (.s (.z))))).anymp (.s (.s (.z))))) rfl (pk_seq (pk_blk (pk_seq (pk_loop (pk_blk (pk_seq pk_fn)))))) (by kernel_rfl) rfl ?_
       refine v_skip (i := 40) rfl (wanted_no rfl rfl rfl) (fun w h => ((h.anymp (.s (.s (.s (.z))))).anymp (.s (.s (.z))))) rfl (pk_seq (pk_blk (pk_seq (pk_loop (pk_blk (pk_seq pk_fn)))))) (by kernel_rfl) rfl ?_
       refine v_take (i := 41) rfl wanted_none (y_pick_t rfl rfl) (fun w h => ((h.anymp (.s (.s (.s (.z))))).anymp (.s (.s (.z))))) (fun w h => h) rfl (pk_seq (pk_blk (pk_seq (pk_loop (pk_blk (pk_seq pk_fn)))))) (by kernel_rfl) rfl ?_
       refine v_done (by kernel_rfl) ?_
       refine e_seq ?_
       refine w_cond_t rfl ?_
       refine w_seq ?_
       refine w_region ?_
       refine o_y (y_assign rfl) rfl rfl ?_
       refine o_y (y_assign rfl) rfl rfl ?_
       refine wl_nil ?_
       refine e_seq ?_
       refine w_ret ?_
       refine e_blk_ret ?_
       refine e_seq_ret ?_
       refine e_loop_ret ?_
       refine e_blk_ret ?_
       refine e_seq_ret ?_
       refine e_ret (ts := [4, 5]) rfl rfl rfl (fun w hw => ?_)
       have hno : ¬ HeldOk (l.map (·.e)) hs := fun H => by
         obtain ⟨q1, ⟨e, q2, q3⟩, q4, q5, q6⟩ := H i hi
         rw [lk_some hI8 hI9 h15_10] at q2; rw [← Option.some.inj q2] at q3; exact h16_11 q3
       exact ⟨⟨none, fun _ => hno, nofun⟩, rfl, hw.base, ((hw.weak (List.nil_sublist _) (fun s hs => hs)).rall0).toNews⟩
      ·skip
       refine v_take (i := 12) rfl wanted_none (y_pick_f rfl rfl) (fun w h => ((h.anymp (.s (.s (.s (.z))))).anymp (.s (.s (.z))))) (fun w h => h) rfl (pk_seq (pk_blk (pk_seq (pk_loop (pk_blk (pk_seq pk_fn)))))) (by kernel_rfl) rfl ?_
       refine v_take (i := 13) rfl wanted_none (y_move rfl) (fun w h => ((h.anymp (.s (.s (.s (.z))))).anymp (.s (.s (.z))))) (fun w h => h) rfl (pk_seq (pk_blk (pk_seq (pk_loop (pk_blk (pk_seq pk_fn)))))) (by kernel_rfl) rfl ?_
       refine v_take (i := 14) rfl (wanted_yes rfl rfl) (y_field fa_42_1 rfl) (fun w h => ((h.anymp (.s (.s (.s (.z))))).anymp (.s (.s (.z))))) (fun w h => h) rfl (pk_seq (pk_blk (pk_seq (pk_loop (pk_blk (pk_seq pk_fn)))))) (by kernel_rfl) rfl ?_
       refine v_take (i := 15) rfl (wanted_yes rfl rfl) (y_loadrs 1 ty_28 rfl rfl rfl rfl) (fun w h => ((h.anymp (.s (.s (.s (.z))))).anymp (.s (.s (.z))))) (fun w h => h) rfl (pk_seq (pk_blk (pk_seq (pk_loop (pk_blk (pk_seq pk_fn)))))) (by kernel_rfl) rfl ?_
       refine v_one (i := 16) rfl (by kernel_rfl) rfl ?_
       refine wl_gyes rfl rfl ?_
       refine o_callp rfl ent_52 (c_addr_Check _ hih.2) rfl ?_
       refine wl_nil ?_
       refine ev_one (fun w h => ((h.anymp (.s (.s (.s (.z))))).anymp (.s (.s (.z))))) ?_
       refine v_take (i := 17) rfl (wanted_yes rfl rfl) (y_neq rfl rfl) (fun w h => ((h.anymp (.s (.s (.s (.z))))).anymp (.s (.s (.z))))) (fun w h => h) rfl (pk_seq (pk_blk (pk_seq (pk_loop (pk_blk (pk_seq pk_fn)))))) (by kernel_rfl) rfl ?_
       refine wv_splitp (t := 90) rfl (fun h16_17 => ?_) (fun h16_17 => ?_)
       ·skip
        refine v_take (i := 18) rfl wanted_none (y_pick_f rfl rfl) (fun w h => ((h.anymp (.s (.s (.s (.z))))).anymp (.s (.s (.z))))) (fun w h => h) rfl (pk_seq (pk_blk (pk_seq (pk_loop (pk_blk (pk_seq pk_fn)))))) (by kernel_rfl) rfl ?_
        refine v_take (i := 19) rfl wanted_none (y_move rfl) (fun w h => ((h.anymp (.s (.s (.s (.z))))).anymp (.s (.s (.z))))) (fun w h => h) rfl (pk_seq (pk_blk (pk_seq (pk_loop (pk_blk (pk_seq pk_fn)))))) (by kernel_rfl) rfl ?_
        refine v_skip (i := 20) rfl (wanted_no rfl rfl rfl) (fun w h => ((h.anymp (.s (.s (.s (.z))))).anymp (.s (.s (.z))))) rfl (pk_seq (pk_blk (pk_seq (pk_loop (pk_blk (pk_seq pk_fn)))))) (by kernel_rfl) rfl ?_
        refine v_skip (i := 21) rfl (wanted_no rfl rfl rfl) (fun w h => ((h.anymp (.s (.s (.s (.z))))).anymp (.s (.s (.z))))) rfl (pk_seq (pk_blk (pk_seq (pk_loop (pk_blk (pk_seq pk_fn)))))) (by kernel_rfl) rfl ?_
        refine v_skip (i := 22) rfl (wanted_no rfl rfl rfl) (fun w h => ((h.anymp (.s (.s (.s (.z))))).anymp (.s (.s (.z))))) rfl (pk_seq (pk_blk (pk_seq (pk_loop (pk_blk (pk_seq pk_fn)))))) (by kernel_rfl) rfl ?_
        refine v_skip (i := 23) rfl (wanted_no rfl rfl rfl) (fun w h => ((h.anymp (.s (.s (.s (.z))))).anymp (.s (.s (.z))))) rfl (pk_seq (pk_blk (pk_seq (pk_loop (pk_blk (pk_seq pk_fn)))))) (by kernel_rfl) rfl ?_
        refine v_skip (i := 24) rfl (wanted_no rfl rfl rfl) (fun w h => ((h.anymp (.s (.s (.s (.z))))).anymp (.s (.s (.z))))) rfl (pk_seq (pk_blk (pk_seq (pk_loop (pk_blk (pk_seq pk_fn)))))) (by kernel_rfl) rfl ?_
        refine v_skip (i := 26) rfl (wanted_no rfl rfl rfl) (fun w h => ((h.anymp (.s (.s (.s (.z))))).anymp (.s (.s (.z))))) rfl (pk_seq (pk_blk (pk_seq (pk_loop (pk_blk (pk_seq pk_fn)))))) (by kernel_rfl) rfl ?_
        refine v_skip (i := 27) rfl (wanted_no rfl rfl rfl) (fun w h => ((h.anymp (.s (.s (.s (.z))))).anymp (.s (.s (.z))))) rfl (pk_seq (pk_blk (pk_seq (pk_loop (pk_blk (pk_seq pk_fn)))))) (by kernel_rfl) rfl ?_
        refine v_skip (i := 25) rfl (wanted_no rfl rfl rfl) (fun w h => ((h.anymp (.s (.s (.s (.z))))).anymp (.s (.s (.z))))) rfl (pk_seq (pk_blk (pk_seq (pk_loop (pk_blk (pk_seq pk_fn)))))) (by kernel_rfl) rfl ?_
        refine v_skip (i := 28) rfl (wanted_no rfl rfl rfl) (fun w h => ((h.anymp (.s (.s (.s (.z))))).anymp (.s (.s (.z))))) rfl (pk_seq (pk_blk (pk_seq (pk_loop (pk_blk (pk_seq pk_fn)))))) (by kernel_rfl) rfl ?_
        refine v_skip (i := 29) rfl (wanted_no rfl rfl rfl) (fun w h => ((h.anymp (.s (.s (.s (.z))))).anymp (.s (.s (.z))))) rfl (pk_seq (pk_blk (pk_seq (pk_loop (pk_blk (pk_seq pk_fn)))))) (by kernel_rfl) rfl ?_
        refine v_take (i := 30) rfl wanted_none (y_pick_t rfl rfl) (fun w h => ((h.anymp (.s (.s (.s (.z))))).anymp (.s (.s (.z))))) (fun w h => h) rfl (pk_seq (pk_blk (pk_seq (pk_loop (pk_blk (pk_seq pk_fn)))))) (by kernel_rfl) rfl ?_
        refine v_take (i := 31) rfl wanted_none (y_move rfl) (fun w h => ((h.anymp (.s (.s (.s (.z))))).anymp (.s (.s (.z))))) (fun w h => h) rfl (pk_seq (pk_blk (pk_seq (pk_loop (pk_blk (pk_seq pk_fn)))))) (by kernel_rfl) rfl ?_
        refine v_skip (i := 32) rfl (wanted_no rfl rfl rfl) (fun w h => ((h.anymp (.s (.s (.s (.z))))).anymp (.s (.s (.z))))) rfl (pk_seq (pk_blk (pk_seq (pk_loop (pk_blk (pk_seq pk_fn)))))) (by kernel_rfl) rfl ?_
        refine v_skip (i := 33) rfl (wanted_no rfl rfl rfl) (fun w h => ((h.anymp (.s (.s (.s (.z))))).anymp (.s (.s (.z))))) rfl (pk_seq (pk_blk (pk_seq (pk_loop (pk_blk (pk_seq pk_fn)))))) (by kernel_rfl) rfl ?_
        refine v_skip (i := 34) rfl (wanted_no rfl rfl rfl) (fun w h => ((h.anymp (.s (.s (.s (.z))))).anymp (.s (.s (.z))))) rfl (pk_seq (pk_blk (pk_seq (pk_loop (pk_blk (pk_seq pk_fn)))))) (by kernel_rfl) rfl ?_
        refine v_skip (i := 35) rfl (wanted_no rfl rfl rfl) (fun w h => ((h.anymp (.s (.s (.s (.z))))).anymp (.s (.s (.z))))) rfl (pk_seq (pk_blk (pk_seq (pk_loop (pk_blk (pk_seq pk_fn)))))) (by kernel_rfl) rfl ?_
        refine v_skip (i := 36) rfl (wanted_no rfl rfl rfl) (fun w h => ((h.anymp (.s (.s (.s (.z))))).anymp (.s (.s (.z))))) rfl (pk_seq (pk_blk (pk_seq (pk_loop (pk_blk (pk_seq pk_fn)))))) (by kernel_rfl) rfl ?_
        refine v_skip (i := 37) rfl (wanted_no rfl rfl rfl) (fun w h => ((h.anymp (.s (.s (.s (.z))))).anymp (.s (.s (.z))))) rfl (pk_seq (pk_blk (pk_seq (pk_loop (pk_blk (pk_seq pk_fn)))))) (by kernel_rfl) rfl ?_
        refine v_skip (i := 38) rfl (wanted_no rfl rfl rfl) (fun w h => ((h.anymp (.s (.s (.s (.z))))).anymp (.s (.s (.z))))) rfl (pk_seq (pk_blk (pk_seq (pk_loop (pk_blk (pk_seq pk_fn)))))) (by kernel_rfl) rfl ?_
        refine v_skip (i := 39) rfl (wanted_no rfl rfl rfl) (fun w h => ((h.anymp (.s (.s (.s (.z))))).anymp (.s (.s (.z))))) rfl (pk_seq (pk_blk (pk_seq (pk_loop (pk_blk (pk_seq pk_fn)))))) (by kernel_rfl) rfl ?_
        refine v_skip (i := 40) rfl (wanted_no rfl rfl rfl) (fun w h => ((h.anymp (.s (.s (.s (.z))))).anymp (.s (.s (.z))))) rfl (pk_seq (pk_blk (pk_seq (pk_loop (pk_blk (pk_seq pk_fn)))))) (by kernel_rfl) rfl ?_
        refine v_take (i := 41) rfl wanted_none (y_pick_t rfl rfl) (fun w h => ((h.anymp (.s (.s (.s (.z))))).anymp (.s (.s (.z))))) (fun w h => h) rfl (pk_seq (pk_blk (pk_seq (pk_loop (pk_blk (pk_seq pk_fn)))))) (by kernel_rfl) rfl ?_
        refine v_done (by kernel_rfl) ?_
        refine e_seq ?_
        refine w_cond_t rfl ?_
        refine w_seq ?_
        refine w_region ?_
        refine o_y (y_assign rfl) rfl rfl ?_
        refine o_y (y_assign rfl) rfl rfl ?_
        refine wl_nil ?_
        refine e_seq ?_
        refine w_ret ?_
        refine e_blk_ret ?_
        refine e_seq_ret ?_
        refine e_loop_ret ?_
        refine e_blk_ret ?_
        refine e_seq_ret ?_
        refine e_ret (ts := [4, 5]) rfl rfl rfl (fun w hw => ?_)
        have hno : ¬ HeldOk (l.map (·.e)) hs := fun H => by
          obtain ⟨q1, ⟨e, q2, q3⟩, q4, q5, q6⟩ := H i hi
          exact h16_17 q4
        exact ⟨⟨none, fun _ => hno, nofun⟩, rfl, hw.base, ((hw.weak (List.nil_sublist _) (fun s hs => hs)).rall0).toNews⟩
       ·skip
        refine v_take (i := 18) rfl wanted_none (y_pick_f rfl rfl) (fun w h => ((h.anymp (.s (.s (.s (.z))))).anymp (.s (.s (.z))))) (fun w h => h) rfl (pk_seq (pk_blk (pk_seq (pk_loop (pk_blk (pk_seq pk_fn)))))) (by kernel_rfl) rfl ?_
        refine v_take (i := 19) rfl wanted_none (y_move rfl) (fun w h => ((h.anymp (.s (.s (.s (.z))))).anymp (.s (.s (.z))))) (fun w h => h) rfl (pk_seq (pk_blk (pk_seq (pk_loop (pk_blk (pk_seq pk_fn)))))) (by kernel_rfl) rfl ?_
        refine v_take (i := 20) rfl (wanted_yes rfl rfl) (y_move rfl) (fun w h => ((h.anymp (.s (.s (.s (.z))))).anymp (.s (.s (.z))))) (fun w h => h) rfl (pk_seq (pk_blk (pk_seq (pk_loop (pk_blk (pk_seq pk_fn)))))) (by kernel_rfl) rfl ?_
        refine v_take (i := 21) rfl (wanted_yes rfl rfl) (y_nilCheck rfl) (fun w h => ((h.anymp (.s (.s (.s (.z))))).anymp (.s (.s (.z))))) (fun w h => h) rfl (pk_seq (pk_blk (pk_seq (pk_loop (pk_blk (pk_seq pk_fn)))))) (by kernel_rfl) rfl ?_
        refine v_take (i := 22) rfl (wanted_yes rfl rfl) (y_field fa_91_2 rfl) (fun w h => ((h.anymp (.s (.s (.s (.z))))).anymp (.s (.s (.z))))) (fun w h => h) rfl (pk_seq (pk_blk (pk_seq (pk_loop (pk_blk (pk_seq pk_fn)))))) (by kernel_rfl) rfl ?_
        refine v_take (i := 23) rfl (wanted_yes rfl rfl) (y_loadr 6 ty_87 rfl rfl rfl) (fun w h => ((h.anymp (.s (.s (.s (.z))))).anymp (.s (.s (.z))))) (fun w h => h) rfl (pk_seq (pk_blk (pk_seq (pk_loop (pk_blk (pk_seq pk_fn)))))) (by kernel_rfl) rfl ?_
        refine v_take (i := 24) rfl (wanted_yes rfl rfl) (y_loadrs 0 ty_47 rfl rfl rfl rfl) (fun w h => ((h.anymp (.s (.s (.s (.z))))).anymp (.s (.s (.z))))) (fun w h => h) rfl (pk_seq (pk_blk (pk_seq (pk_loop (pk_blk (pk_seq pk_fn)))))) (by kernel_rfl) rfl ?_
        refine v_take (i := 26) rfl (wanted_yes rfl rfl) (y_field fa_42_1 rfl) (fun w h => ((h.anymp (.s (.s (.s (.z))))).anymp (.s (.s (.z))))) (fun w h => h) rfl (pk_seq (pk_blk (pk_seq (pk_loop (pk_blk (pk_seq pk_fn)))))) (by kernel_rfl) rfl ?_
        refine v_take (i := 27) rfl (wanted_yes rfl rfl) (y_loadrs 1 ty_28 rfl rfl rfl rfl) (fun w h => ((h.anymp (.s (.s (.s (.z))))).anymp (.s (.s (.z))))) (fun w h => h) rfl (pk_seq (pk_blk (pk_seq (pk_loop (pk_blk (pk_seq pk_fn)))))) (by kernel_rfl) rfl ?_
        refine v_one (i := 25) rfl (by kernel_rfl) rfl ?_
        refine wl_gyes rfl rfl ?_
        refine o_callp rfl ent_48 (c_entry_Key _ _ _ _ _ (by have := hbf.h; omega)) rfl ?_
        refine wl_nil ?_
        refine ev_one (fun w h => ((h.anymp (.s (.s (.s (.z))))).anymp (.s (.s (.z))))) ?_
        refine wv_as (t := 98) (.string (ba (foldN (hs.getD i hd0).host))) rfl (by rw [hfm.2]) ?_
        refine v_one (i := 28) rfl (by kernel_rfl) rfl ?_
        refine wl_gyes rfl rfl ?_
        refine o_callu rfl ent_53 rfl (c_put_d dm r2 (foldN (hs.getD i hd0).host) (hs.getD i hd0).ad) (fun o => (.s (.s (.s (.z))))) (List.mem_of_getElem? (i := 3) rfl) (fun s hs => nomatch hs) (fun o24 => ?_)
        refine wl_nil ?_
        refine ev_one (fun w h => ((h.anymp (.s (.s (.s (.z))))).anymp (.s (.s (.z))))) ?_
        refine wv_splitb (t := 101) rfl (fun h16_28 => ?_) (fun h16_28 => ?_)
        ·skip
         refine v_take (i := 29) rfl (wanted_yes rfl rfl) (y_not rfl) (fun w h => ((h.anymp (.s (.s (.s (.z))))).anymp (.s (.s (.z))))) (fun w h => h) rfl (pk_seq (pk_blk (pk_seq (pk_loop (pk_blk (pk_seq pk_fn)))))) (by kernel_rfl) rfl ?_
         refine v_take (i := 30) rfl wanted_none (y_pick_f rfl rfl) (fun w h => ((h.anymp (.s (.s (.s (.z))))).anymp (.s (.s (.z))))) (fun w h => h) rfl (pk_seq (pk_blk (pk_seq (pk_loop (pk_blk (pk_seq pk_fn)))))) (by kernel_rfl) rfl ?_
         refine v_take (i := 31) rfl wanted_none (y_move rfl) (fun w h => ((h.anymp (.s (.s (.s (.z))))).anymp (.s (.s (.z))))) (fun w h => h) rfl (pk_seq (pk_blk (pk_seq (pk_loop (pk_blk (pk_seq pk_fn)))))) (by kernel_rfl) rfl ?_
         refine v_take (i := 32) rfl (wanted_yes rfl rfl) (y_move rfl) (fun w h => ((h.anymp (.s (.s (.s (.z))))).anymp (.s (.s (.z))))) (fun w h => h) rfl (pk_seq (pk_blk (pk_seq (pk_loop (pk_blk (pk_seq pk_fn)))))) (by kernel_rfl) rfl ?_
         refine v_take (i := 33) rfl (wanted_yes rfl rfl) (y_nilCheck rfl) (fun w h => ((h.anymp (.s (.s (.s (.z))))).anymp (.s (.s (.z))))) (fun w h => h) rfl (pk_seq (pk_blk (pk_seq (pk_loop (pk_blk (pk_seq pk_fn)))))) (by kernel_rfl) rfl ?_
         refine v_take (i := 34) rfl (wanted_yes rfl rfl) (y_field fa_91_3 rfl) (fun w h => ((h.anymp (.s (.s (.s (.z))))).anymp (.s (.s (.z))))) (fun w h => h) rfl (pk_seq (pk_blk (pk_seq (pk_loop (pk_blk (pk_seq pk_fn)))))) (by kernel_rfl) rfl ?_
         refine v_take (i := 35) rfl (wanted_yes rfl rfl) (y_loadr 6 ty_89 rfl rfl rfl) (fun w h => ((h.anymp (.s (.s (.s (.z))))).anymp (.s (.s (.z))))) (fun w h => h) rfl (pk_seq (pk_blk (pk_seq (pk_loop (pk_blk (pk_seq pk_fn)))))) (by kernel_rfl) rfl ?_
         refine v_take (i := 36) rfl (wanted_yes rfl rfl) (y_field fa_42_1 rfl) (fun w h => ((h.anymp (.s (.s (.s (.z))))).anymp (.s (.s (.z))))) (fun w h => h) rfl (pk_seq (pk_blk (pk_seq (pk_loop (pk_blk (pk_seq pk_fn)))))) (by kernel_rfl) rfl ?_
         refine v_take (i := 37) rfl (wanted_yes rfl rfl) (y_loadrs 1 ty_28 rfl rfl rfl rfl) (fun w h => ((h.anymp (.s (.s (.s (.z))))).anymp (.s (.s (.z))))) (fun w h => h) rfl (pk_seq (pk_blk (pk_seq (pk_loop (pk_blk (pk_seq pk_fn)))))) (by kernel_rfl) rfl ?_
         refine v_take (i := 38) rfl (wanted_yes rfl rfl) (y_loadrs 0 ty_47 rfl rfl rfl rfl) (fun w h => ((h.anymp (.s (.s (.s (.z))))).anymp (.s (.s (.z))))) (fun w h => h) rfl (pk_seq (pk_blk (pk_seq (pk_loop (pk_blk (pk_seq pk_fn)))))) (by kernel_rfl) rfl ?_
         refine v_one (i := 39) rfl (by kernel_rfl) rfl ?_
         refine wl_gyes rfl rfl ?_
         refine o_callu rfl ent_54 rfl (c_put_a am r3 (hs.getD i hd0).ad ((lkp hm (foldN (hs.getD i hd0).host)).getD le0)) (fun o => (.s (.s (.z)))) (List.mem_of_getElem? (i := 2) rfl) (fun s hs => nomatch hs) (fun o25 => ?_)
         refine wl_nil ?_
         refine ev_one (fun w h => ((h.anymp (.s (.s (.s (.z))))).anymp (.s (.s (.z))))) ?_
         refine wv_splitb (t := 112) rfl (fun h16_39 => ?_) (fun h16_39 => ?_)
         ·skip
          refine v_take (i := 40) rfl (wanted_yes rfl rfl) (y_not rfl) (fun w h => ((h.anymp (.s (.s (.s (.z))))).anymp (.s (.s (.z))))) (fun w h => h) rfl (pk_seq (pk_blk (pk_seq (pk_loop (pk_blk (pk_seq pk_fn)))))) (by kernel_rfl) rfl ?_
          refine v_take (i := 41) rfl wanted_none (y_pick_f rfl rfl) (fun w h => ((h.anymp (.s (.s (.s (.z))))).anymp (.s (.s (.z))))) (fun w h => h) rfl (pk_seq (pk_blk (pk_seq (pk_loop (pk_blk (pk_seq pk_fn)))))) (by kernel_rfl) rfl ?_
          refine v_done (by kernel_rfl) ?_
          refine e_seq ?_
          refine w_cond_f rfl ?_
          refine w_skip ?_
          refine e_blk ?_
          refine e_seq ?_
          refine w_region ?_
          refine o_y (y_addi rfl rfl (by omega) (by omega)) rfl rfl ?_
          refine o_y (y_move rfl) rfl rfl ?_
          refine wl_nil ?_
          have hps : ∀ p ∈ hs.take i, (lkp hm (foldN p.host)).isSome = true := fun p hp => by
            obtain ⟨e, he, _⟩ := held_pre hI.2.1 hI.1 p hp
            rw [← lk_E hI8 hI9] at he
            cases hz : lkp hm (foldN p.host) with
            | none => rw [hz] at he; cases he
            | some y => rfl
          have hokh : okH (l.map (·.e)) (hs.take i) (hs.getD i hd0) := ⟨by omega, ⟨_, lk_some hI8 hI9 h15_10, by omega⟩, by omega, dm_no hI.2.2.1 (by simpa using h16_28), am_no hI.2.2.2 hps (by simpa using h16_39)⟩
          refine e_back ((i + 1, putF dm (foldN (hs.getD i hd0).host) (hs.getD i hd0).ad, putF am (hs.getD i hd0).ad ((lkp hm (foldN (hs.getD i hd0).host)).getD le0))) ?_ ?_ ⟨rfl, trivial⟩ (by repeat (first | exact trivial | refine ⟨rfl, ?_⟩)) (fun w h => h.weak (.cons _ (.cons _ (List.Sublist.refl _))) (fun s hs => hs))
          ·refine ⟨by show i + 1 ≤ _; omega, held_step hI.2.1 hokh, ?_, ?_⟩
           · show DmOk _ (hs.take (i + 1))
             rw [take_getD hs hd0 i hi]; exact dm_put hI.2.2.1 _
           · show AmOk0 _ hm (hs.take (i + 1))
             rw [take_getD hs hd0 i hi]; exact am_put hI.2.2.2 hps _ h15_10
          ·show hs.length - (i + 1) < hs.length - i
           omega
         ·skip
          refine v_take (i := 40) rfl (wanted_yes rfl rfl) (y_not rfl) (fun w h => ((h.anymp (.s (.s (.s (.z))))).anymp (.s (.s (.z))))) (fun w h => h) rfl (pk_seq (pk_blk (pk_seq (pk_loop (pk_blk (pk_seq pk_fn)))))) (by kernel_rfl) rfl ?_
          refine v_take (i := 41) rfl wanted_none (y_pick_f rfl rfl) (fun w h => ((h.anymp (.s (.s (.s (.z))))).anymp (.s (.s (.z))))) (fun w h => h) rfl (pk_seq (pk_blk (pk_seq (pk_loop (pk_blk (pk_seq pk_fn)))))) (by kernel_rfl) rfl ?_
          refine v_done (by kernel_rfl) ?_
          refine e_seq ?_
          refine w_cond_t rfl ?_
          refine w_seq ?_
          refine w_region ?_
          refine o_y (y_assign rfl) rfl rfl ?_
          refine o_y (y_assign rfl) rfl rfl ?_
          refine wl_nil ?_
          refine e_seq ?_
          refine w_ret ?_
          refine e_blk_ret ?_
          refine e_seq_ret ?_
          refine e_loop_ret ?_
          refine e_blk_ret ?_
          refine e_seq_ret ?_
          refine e_ret (ts := [4, 5]) rfl rfl rfl (fun w hw => ?_)
          have hno : ¬ HeldOk (l.map (·.e)) hs := fun H => by
            obtain ⟨q1, ⟨e, q2, q3⟩, q4, q5, q6⟩ := H i hi
            obtain ⟨p, hp, e9⟩ := am_yes hI.2.2.2 (by simpa using h16_39); exact q6 p hp e9
          exact ⟨⟨none, fun _ => hno, nofun⟩, rfl, hw.base, ((hw.weak (List.nil_sublist _) (fun s hs => hs)).rall0).toNews⟩
        ·skip
         refine v_take (i := 29) rfl (wanted_yes rfl rfl) (y_not rfl) (fun w h => ((h.anymp (.s (.s (.s (.z))))).anymp (.s (.s (.z))))) (fun w h => h) rfl (pk_seq (pk_blk (pk_seq (pk_loop (pk_blk (pk_seq pk_fn)))))) (by kernel_rfl) rfl ?_
         refine v_take (i := 30) rfl wanted_none (y_pick_f rfl rfl) (fun w h => ((h.anymp (.s (.s (.s (.z))))).anymp (.s (.s (.z))))) (fun w h => h) rfl (pk_seq (pk_blk (pk_seq (pk_loop (pk_blk (pk_seq pk_fn)))))) (by kernel_rfl) rfl ?_
         refine v_take (i := 31) rfl wanted_none (y_move rfl) (fun w h => ((h.anymp (.s (.s (.s (.z))))).anymp (.s (.s (.z))))) (fun w h => h) rfl (pk_seq (pk_blk (pk_seq (pk_loop (pk_blk (pk_seq pk_fn)))))) (by kernel_rfl) rfl ?_
         refine v_skip (i := 32) rfl (wanted_no rfl rfl rfl) (fun w h => ((h.anymp (.s (.s (.s (.z))))).anymp (.s (.s (.z))))) rfl (pk_seq (pk_blk (pk_seq (pk_loop (pk_blk (pk_seq pk_fn)))))) (by kernel_rfl) rfl ?_
         refine v_skip (i := 33) rfl (wanted_no rfl rfl rfl) (fun w h => ((h.anymp (.s (.s (.s (.z))))).anymp (.s (.s (.z))))) rfl (pk_seq (pk_blk (pk_seq (pk_loop (pk_blk (pk_seq pk_fn)))))) (by kernel_rfl) rfl ?_
         refine v_skip (i := 34) rfl (wanted_no rfl rfl rfl) (fun w h => ((h.anymp (.s (.s (.s (.z))))).anymp (.s (.s (.z))))) rfl (pk_seq (pk_blk (pk_seq (pk_loop (pk_blk (pk_seq pk_fn)))))) (by kernel_rfl) rfl ?_
         refine v_skip (i := 35) rfl (wanted_no rfl rfl rfl) (fun w h => ((h.anymp (.s (.s (.s (.z))))).anymp (.s (.s (.z))))) rfl (pk_seq (pk_blk (pk_seq (pk_loop (pk_blk (pk_seq pk_fn)))))) (by kernel_rfl) rfl ?_
         refine v_skip (i := 36) rfl (wanted_no rfl rfl rfl) (fun w h => ((h.anymp (.s (.s (.s (.z))))).anymp (.s (.s (.z))))) rfl (pk_seq (pk_blk (pk_seq (pk_loop (pk_blk (pk_seq pk_fn)))))) (by kernel_rfl) rfl ?_
         refine v_skip (i := 37) rfl (wanted_no rfl rfl rfl) (fun w h => ((h.anymp (.s (.s (.s (.z))))).anymp (.s (.s (.z))))) rfl (pk_seq (pk_blk (pk_seq (pk_loop (pk_blk (pk_seq pk_fn)))))) (by kernel_rfl) rfl ?_
         refine v_skip (i := 38) rfl (wanted_no rfl rfl rfl) (fun w h => ((h.anymp (.s (.s (.s (.z))))).anymp (.s (.s (.z))))) rfl (pk_seq (pk_blk (pk_seq (pk_loop (pk_blk (pk_seq pk_fn)))))) (by kernel_rfl) rfl ?_
         refine v_skip (i := 39) rfl (wanted_no rfl rfl rfl) (fun w h => ((h.anymp (.s (.s (.s (.z))))).anymp (.s (.s (.z))))) rfl (pk_seq (pk_blk (pk_seq (pk_loop (pk_blk (pk_seq pk_fn)))))) (by kernel_rfl) rfl ?_
         refine v_skip (i := 40) rfl (wanted_no rfl rfl rfl) (fun w h => ((h.anymp (.s (.s (.s (.z))))).anymp (.s (.s (.z))))) rfl (pk_seq (pk_blk (pk_seq (pk_loop (pk_blk (pk_seq pk_fn)))))) (by kernel_rfl) rfl ?_
         refine v_take (i := 41) rfl wanted_none (y_pick_t rfl rfl) (fun w h => ((h.anymp (.s (.s (.s (.z))))).anymp (.s (.s (.z))))) (fun w h => h) rfl (pk_seq (pk_blk (pk_seq (pk_loop (pk_blk (pk_seq pk_fn)))))) (by kernel_rfl) rfl ?_
         refine v_done (by kernel_rfl) ?_
         refine e_seq ?_
         refine w_cond_t rfl ?_
         refine w_seq ?_
         refine w_region ?_
         refine o_y (y_assign rfl) rfl rfl ?_
         refine o_y (y_assign rfl) rfl rfl ?_
         refine wl_nil ?_
         refine e_seq ?_
         refine w_ret ?_
         refine e_blk_ret ?_
         refine e_seq_ret ?_
         refine e_loop_ret ?_
         refine e_blk_ret ?_
         refine e_seq_ret ?_
         refine e_ret (ts := [4, 5]) rfl rfl rfl (fun w hw => ?_)
         have hno : ¬ HeldOk (l.map (·.e)) hs := fun H => by
           obtain ⟨q1, ⟨e, q2, q3⟩, q4, q5, q6⟩ := H i hi
           obtain ⟨p, hp, e9⟩ := dm_yes hI.2.2.1 (by simpa using h16_28); exact q5 p hp e9
         exact ⟨⟨none, fun _ => hno, nofun⟩, rfl, hw.base, ((hw.weak (List.nil_sublist _) (fun s hs => hs)).rall0).toNews⟩
    ·skip
     refine v_one (i := 12) rfl (by kernel_rfl) rfl ?_
     refine o_store ty_47 rfl rfl rfl .z rfl rfl rfl rfl ?_
     refine wl_nil ?_
     refine ev_one (fun w h => h.weak (.cons _ (List.Sublist.refl _)) (fun s hs => hs)) ?_
     refine v_one (i := 13) rfl (by kernel_rfl) rfl ?_
     refine o_y (y_assign rfl) rfl rfl ?_
     refine wl_nil ?_
     refine ev_tail rfl ?_
     refine v_done (by kernel_rfl) ?_
     refine e_seq ?_
     refine w_seq ?_
     refine w_drawVA 42 mixed (fun w h => ((h.anymp (.s (.s (.s (.z))))).anymp (.s (.s (.z))))) ?_
     refine v_take (i := 0) rfl wanted_none (y_move rfl) (fun w h => ((h.anymp (.s (.s (.s (.z))))).anymp (.s (.s (.z))))) (fun w h => h) rfl (pk_seq (pk_blk (pk_seq (pk_loop (pk_blk (pk_seq pk_fn)))))) (by kernel_rfl) rfl ?_
     refine v_take (i := 1) rfl wanted_none (y_not rfl) (fun w h => ((h.anymp (.s (.s (.s (.z))))).anymp (.s (.s (.z))))) (fun w h => h) rfl (pk_seq (pk_blk (pk_seq (pk_loop (pk_blk (pk_seq pk_fn)))))) (by kernel_rfl) rfl ?_
     refine v_take (i := 2) rfl wanted_none (y_move rfl) (fun w h => ((h.anymp (.s (.s (.s (.z))))).anymp (.s (.s (.z))))) (fun w h => h) rfl (pk_seq (pk_blk (pk_seq (pk_loop (pk_blk (pk_seq pk_fn)))))) (by kernel_rfl) rfl ?_
     refine v_skip (i := 3) rfl (wanted_no rfl rfl rfl) (fun w h => ((h.anymp (.s (.s (.s (.z))))).anymp (.s (.s (.z))))) rfl (pk_seq (pk_blk (pk_seq (pk_loop (pk_blk (pk_seq pk_fn)))))) (by kernel_rfl) rfl ?_
     refine v_skip (i := 4) rfl (wanted_no rfl rfl rfl) (fun w h => ((h.anymp (.s (.s (.s (.z))))).anymp (.s (.s (.z))))) rfl (pk_seq (pk_blk (pk_seq (pk_loop (pk_blk (pk_seq pk_fn)))))) (by kernel_rfl) rfl ?_
     refine v_skip (i := 5) rfl (wanted_no rfl rfl rfl) (fun w h => ((h.anymp (.s (.s (.s (.z))))).anymp (.s (.s (.z))))) rfl (pk_seq (pk_blk (pk_seq (pk_loop (pk_blk (pk_seq pk_fn)))))) (by kernel_rfl) rfl ?_
     refine v_skip (i := 6) rfl (wanted_no rfl rfl rfl) (fun w h => ((h.anymp (.s (.s (.s (.z))))).anymp (.s (.s (.z))))) rfl (pk_seq (pk_blk (pk_seq (pk_loop (pk_blk (pk_seq pk_fn)))))) (by kernel_rfl) rfl ?_
     refine v_take (i := 7) rfl wanted_none (y_pick_t rfl rfl) (fun w h => ((h.anymp (.s (.s (.s (.z))))).anymp (.s (.s (.z))))) (fun w h => h) rfl (pk_seq (pk_blk (pk_seq (pk_loop (pk_blk (pk_seq pk_fn)))))) (by kernel_rfl) rfl ?_
     refine v_take (i := 8) rfl wanted_none (y_move rfl) (fun w h => ((h.anymp (.s (.s (.s (.z))))).anymp (.s (.s (.z))))) (fun w h => h) rfl (pk_seq (pk_blk (pk_seq (pk_loop (pk_blk (pk_seq pk_fn)))))) (by kernel_rfl) rfl ?_
     refine v_skip (i := 9) rfl (wanted_no rfl rfl rfl) (fun w h => ((h.anymp (.s (.s (.s (.z))))).anymp (.s (.s (.z))))) rfl (pk_seq (pk_blk (pk_seq (pk_loop (pk_blk (pk_seq pk_fn)))))) (by kernel_rfl) rfl ?_
     refine v_skip (i := 10) rfl (wanted_no rfl rfl rfl) (fun w h => ((h.anymp (.s (.s (.s (.z))))).anymp (.s (.s (.z))))) rfl (pk_seq (pk_blk (pk_seq (pk_loop (pk_blk (pk_seq pk_fn)))))) (by kernel_rfl) rfl ?_
     refine v_skip (i := 11) rfl (wanted_no rfl rfl rfl) (fun w h => ((h.anymp (.s (.s (.s (.z))))).anymp (.s (.s (.z))))) rfl (pk_seq (pk_blk (pk_seq (pk_loop (pk_blk (pk_seq pk_fn)))))) (by kernel_rfl) rfl ?_
     refine v_take (i := 12) rfl wanted_none (y_pick_t rfl rfl) (fun w h => ((h.anymp (.s (.s (.s (.z))))).anymp (.s (.s (.z))))) (fun w h => h) rfl (pk_seq (pk_blk (pk_seq (pk_loop (pk_blk (pk_seq pk_fn)))))) (by kernel_rfl) rfl ?_
     refine v_take (i := 13) rfl wanted_none (y_move rfl) (fun w h => ((h.anymp (.s (.s (.s (.z))))).anymp (.s (.s (.z))))) (fun w h => h) rfl (pk_seq (pk_blk (pk_seq (pk_loop (pk_blk (pk_seq pk_fn)))))) (by kernel_rfl) rfl ?_
     refine v_skip (i := 14) rfl (wanted_no rfl rfl rfl) (fun w h => ((h.anymp (.s (.s (.s (.z))))).anymp (.s (.s (.z))))) rfl (pk_seq (pk_blk (pk_seq (pk_loop (pk_blk (pk_seq pk_fn)))))) (by kernel_rfl) rfl ?_
     refine v_skip (i := 15) rfl (wanted_no rfl rfl rfl) (fun w h => ((h.anymp (.s (.s (.s (.z))))).anymp (.s (.s (.z))))) rfl (pk_seq (pk_blk (pk_seq (pk_loop (pk_blk (pk_seq pk_fn)))))) (by kernel_rfl) rfl ?_
     refine v_skip (i := 16) rfl (wanted_no rfl rfl rfl) (fun w h => ((h.anymp (.s (.s (.s (.z))))).anymp (.s (.s (.z))))) rfl (pk_seq (pk_blk (pk_seq (pk_loop (pk_blk (pk_seq pk_fn)))))) (by kernel_rfl) rfl ?_
     refine v_skip (i := 17) rfl (wanted_no rfl rfl rfl) (fun w h => ((h.anymp (.s (.s (.s (.z))))).anymp (.s (.s (.z))))) rfl (pk_seq (pk_blk (pk_seq (pk_loop (pk_blk (pk_seq pk_fn)))))) (by kernel_rfl) rfl ?_
     refine v_take (i := 18) rfl wanted_none (y_pick_t rfl rfl) (fun w h => ((h.anymp (.s (.s (.s (.z))))).anymp (.s (.s (.z))))) (fun w h => h) rfl (pk_seq (pk_blk (pk_seq (pk_loop (pk_blk (pk_seq pk_fn)))))) (by kernel_rfl) rfl ?_
     refine v_take (i := 19) rfl wanted_none (y_move rfl) (fun w h => ((h.anymp (.s (.s (.s (.z))))).anymp (.s (.s (.z))))) (fun w h => h) rfl (pk_seq (pk_blk (pk_seq (pk_loop (pk_blk (pk_seq pk_fn)))))) (by kernel_rfl) rfl ?_
     refine v_skip (i := 20) rfl (wanted_no rfl rfl rfl) (fun w h => ((h.anymp (.s (.s (.s (.z))))).anymp (.s (.s (.z))))) rfl (pk_seq (pk_blk (pk_seq (pk_loop (pk_blk (pk_seq pk_fn)))))) (by kernel_rfl) rfl ?_
     refine v_skip (i := 21) rfl (wanted_no rfl rfl rfl) (fun w h => ((h.anymp (.s (.s (.s (.z))))).anymp (.s (.s (.z))))) rfl (pk_seq (pk_blk (pk_seq (pk_loop (pk_blk (pk_seq pk_fn)))))) (by kernel_rfl) rfl ?_
     refine v_skip (i := 22) rfl (wanted_no rfl rfl rfl) (fun w h => ((h.anymp (.s (.s (.s (.z))))).anymp (.s (.s (.z))))) rfl (pk_seq (pk_blk (pk_seq (pk_loop (pk_blk (pk_seq pk_fn)))))) (by kernel_rfl) rfl ?_
     refine v_skip (i := 23) rfl (wanted_no rfl rfl rfl) (fun w h => ((h.anymp (.s (.s (.s (.z))))).anymp (.s (.s (.z))))) rfl (pk_seq (pk_blk (pk_seq (pk_loop (pk_blk (pk_seq pk_fn)))))) (by kernel_rfl) rfl ?_
     refine v_skip (i := 24) rfl (wanted_no rfl rfl rfl) (fun w h => ((h.anymp (.s (.s (.s (.z))))).anymp (.s (.s (.z))))) rfl (pk_seq (pk_blk (pk_seq (pk_loop (pk_blk (pk_seq pk_fn)))))) (by kernel_rfl) rfl ?_
     refine v_skip (i := 26) rfl (wanted_no rfl rfl rfl) (fun w h => ((h.anymp (.s (.s (.s (.z))))).anymp (.s (.s (.z))))) rfl (pk_seq (pk_blk (pk_seq (pk_loop (pk_blk (pk_seq pk_fn)))))) (by kernel_rfl) rfl ?_
     refine v_skip (i := 27) rfl (wanted_no rfl rfl rfl) (fun w h => ((h.anymp (.s (.s (.s (.z))))).anymp (.s (.s (.z))))) rfl (pk_seq (pk_blk (pk_seq (pk_loop (pk_blk (pk_seq pk_fn)))))) (by kernel_rfl) rfl ?_
     refine v_skip (i := 25) rfl (wanted_no rfl rfl rfl) (fun w h => ((h.anymp (.s (.s (.s (.z))))).anymp (.s (.s (.z))))) rfl (pk_seq (pk_blk (pk_seq (pk_loop (pk_blk (pk_seq pk_fn)))))) (by kernel_rfl) rfl ?_
     refine v_skip (i := 28) rfl (wanted_no rfl rfl rfl) (fun w h => ((h.anymp (.s (.s (.s (.z))))).anymp (.s (.s (.z))))) rfl (pk_seq (pk_blk (pk_seq (pk_loop (pk_blk (pk_seq pk_fn)))))) (by kernel_rfl) rfl ?_
     refine v_skip (i := 29) rfl (wanted_no rfl rfl rfl) (fun w h => ((h.anymp (.s (.s (.s (.z))))).anymp (.s (.s (.z))))) rfl (pk_seq (pk_blk (pk_seq (pk_loop (pk_blk (pk_seq pk_fn)))))) (by kernel_rfl) rfl ?_
     refine v_take (i := 30) rfl wanted_none (y_pick_t rfl rfl) (fun w h => ((h.anymp (.s (.s (.s (.z))))).anymp (.s (.s (.z))))) (fun w h => h) rfl (pk_seq (pk_blk (pk_seq (pk_loop (pk_blk (pk_seq pk_fn)))))) (by kernel_rfl) rfl ?_
     refine v_take (i := 31) rfl wanted_none (y_move rfl) (fun w h => ((h.anymp (.s (.s (.s (.z))))).anymp (.s (.s (.z))))) (fun w h => h) rfl (pk_seq (pk_blk (pk_seq (pk_loop (pk_blk (pk_seq pk_fn)))))) (by kernel_rfl) rfl ?_
     refine v_skip (i := 32) rfl (wanted_no rfl rfl rfl) (fun w h => ((h.anymp (.s (.s (.s (.z))))).anymp (.s (.s (.z))))) rfl (pk_seq (pk_blk (pk_seq (pk_loop (pk_blk (pk_seq pk_fn)))))) (by kernel_rfl) rfl ?_
     refine v_skip (i := 33) rfl (wanted_no rfl rfl rfl) (fun w h => ((h.anymp (.s (.s (.s (.z))))).anymp (.s (.s (.z))))) rfl (pk_seq (pk_blk (pk_seq (pk_loop (pk_blk (pk_seq pk_fn)))))) (by kernel_rfl) rfl ?_
     refine v_skip (i := 34) rfl (wanted_no rfl rfl rfl) (fun w h => ((h.anymp (.s (.s (.s (.z))))).anymp (.s (.s (.z))))) rfl (pk_seq (pk_blk (pk_seq (pk_loop (pk_blk (pk_seq pk_fn)))))) (by kernel_rfl) rfl ?_
     refine v_skip (i := 35) rfl (wanted_no rfl rfl rfl) (fun w h => ((h.anymp (.s (.s (.s (.z))))).anymp (.s (.s (.z))))) rfl (pk_seq (pk_blk (pk_seq (pk_loop (pk_blk (pk_seq pk_fn)))))) (by kernel_rfl) rfl ?_
     refine v_skip (i := 36) rfl (wanted_no rfl rfl rfl) (fun w h => ((h.anymp (.s (.s (.s (.z))))).anymp (.s (.s (.z))))) rfl (pk_seq (pk_blk (pk_seq (pk_loop (pk_blk (pk_seq pk_fn)))))) (by kernel_rfl) rfl ?_
     refine v_skip (i := 37) rfl (wanted_no rfl rfl rfl) (fun w h => ((h.anymp (.s (.s (.s (.z))))).anymp (.s (.s (.z))))) rfl (pk_seq (pk_blk (pk_seq (pk_loop (pk_blk (pk_seq pk_fn)))))) (by kernel_rfl) rfl ?_
     refine v_skip (i := 38) rfl (wanted_no rfl rfl rfl) (fun w h => ((h.anymp (.s (.s (.s (.z))))).anymp (.s (.s (.z))))) rfl (pk_seq (pk_blk (pk_seq (pk_loop (pk_blk (pk_seq pk_fn)))))) (by kernel_rfl) rfl ?_
     refine v_skip (i := 39) rfl (wanted_no rfl rfl rfl) (fun w h => ((h.anymp (.s (.s (.s (.z))))).anymp (.s (.s (.z))))) rfl (pk_seq (pk_blk (pk_seq (pk_loop (pk_blk (pk_seq pk_fn)))))) (by kernel_rfl) rfl ?_
     refine v_skip (i := 40) rfl (wanted_no rfl rfl rfl) (fun w h => ((h.anymp (.s (.s (.s (.z))))).anymp (.s (.s (.z))))) rfl (pk_seq (pk_blk (pk_seq (pk_loop (pk_blk (pk_seq pk_fn)))))) (by kernel_rfl) rfl ?_
     refine v_take (i := 41) rfl wanted_none (y_pick_t rfl rfl) (fun w h => ((h.anymp (.s (.s (.s (.z))))).anymp (.s (.s (.z))))) (fun w h => h) rfl (pk_seq (pk_blk (pk_seq (pk_loop (pk_blk (pk_seq pk_fn)))))) (by kernel_rfl) rfl ?_
     refine v_done (by kernel_rfl) ?_
     refine e_seq ?_
     refine w_cond_t rfl ?_
     refine w_seq ?_
     refine w_region ?_
     refine o_y (y_assign rfl) rfl rfl ?_
     refine o_y (y_assign rfl) rfl rfl ?_
     refine wl_nil ?_
     refine e_seq ?_
     refine w_ret ?_
     refine e_blk_ret ?_
     refine e_seq_ret ?_
     refine e_loop_ret ?_
     refine e_blk_ret ?_
     refine e_seq_ret ?_
     refine e_ret (ts := [4, 5]) rfl rfl rfl (fun w hw => ?_)
     have hno : ¬ HeldOk (l.map (·.e)) hs := fun H => by
       obtain ⟨q1, ⟨e, q2, q3⟩, q4, q5, q6⟩ := H i hi
       rw [← lk_E hI8 hI9, none_of h15_10] at q2; cases q2
     exact ⟨⟨none, fun _ => hno, nofun⟩, rfl, hw.base, ((hw.weak (List.nil_sublist _) (fun s hs => hs)).rall0).toNews⟩
   exact wrv_nil
  ·skip
   refine wl_nil ?_
   refine e_seq ?_
   refine w_seq ?_
   refine w_cond_f rfl ?_
   refine w_exit ?_
   refine e_seq_exit ?_
   refine e_loop_exit ?_
   refine e_blk_hit ?_
   refine e_seq ?_
   refine w_seq ?_
   refine w_seq ?_
   have hil9 : i = hs.length := by omega
   subst hil9
   have hHk : HeldOk (l.map (·.e)) hs := hI.2.1
   have hDm := hI.2.2.1
   have hAm := hI.2.2.2
   rw [List.take_length] at hDm hAm
   refine w_region ?_
   refine o_y (y_move rfl) rfl rfl ?_
   refine o_y (y_nilCheck rfl) rfl rfl ?_
   refine o_y (y_field fa_91_0 rfl) rfl rfl ?_
   refine o_y (y_loadr 4 ty_22 rfl rfl rfl) rfl rfl ?_
   refine o_y (y_lenl Tryz.underlying22 rfl) rfl rfl ?_
   refine o_y (y_move rfl) rfl rfl ?_
   refine wl_nil ?_
   refine e_seq ?_
   refine w_block ?_
   refine w_loop1 (σ := Nat × List (Ad × Le)) [15, 17, 121, 122, 123, 124, 125, 126, 127, 128, 129, 130, 131, 132, 133, 134, 135, 136, 137, 138, 139, 140] (fun q => q.1 ≤ lc.length ∧ ∀ a, lkp q.2 a = (lkp am a).or ((lc.take q.1).find? fun y => decide (a ∈ y.e.addrs))) (fun q => lc.length - q.1) (fun q => [(121, .int .i64 q.1)]) (fun q => Ch.mp r3 encA encE q.2) ((0, am)) ?_ ⟨rfl, trivial⟩ rfl (fun q hI => ?_)
   ·exact ⟨Nat.zero_le _, fun a => by show _ = (lkp am a).or none; cases lkp am a <;> rfl⟩
   obtain ⟨k2, am1⟩ := q
   dsimp only at hI ⊢
   refine w_seq ?_
   refine w_region ?_
   refine o_y (y_lss rfl rfl) rfl rfl ?_
   refine wl_splitp (t := 122) rfl (fun h20_0 => ?_) (fun h20_0 => ?_)
   ·skip
    have hk2 : k2 < lc.length := by omega
    have hb9 := EnB.eq (hok.at (k := k2) (by omega)) (getE_eq hI9 k2)
    have hla9 := hb9.la
    refine wl_nil ?_
    refine e_seq ?_
    refine w_seq ?_
    refine w_cond_t rfl ?_
    refine w_skip ?_
    refine e_seq ?_
    refine w_seq ?_
    refine w_block ?_
    refine w_seq ?_
    refine w_region ?_
    refine o_y (y_ixm  Tryz.underlying22 ty_47 rfl rfl (rs_L 3 rfl) rfl (by omega)) rfl rfl ?_
    refine o_y (y_ldsm0 enc_le le0 ty_47 rfl (rs_L 3 rfl) (by omega) rfl rfl rfl) rfl rfl ?_
    refine o_alloc ty_47 rfl rfl (fun b27 => ?_)
    refine o_store ty_47 rfl rfl rfl .z rfl rfl rfl rfl ?_
    refine wl_nil ?_
    refine e_seq ?_
    refine w_seq ?_
    refine w_region ?_
    refine o_y (y_field fa_47_3 rfl) rfl rfl ?_
    refine o_y (y_loadr 0 ty_43 rfl rfl rfl) rfl rfl ?_
    refine o_y (y_lenl Tryz.underlying43 rfl) rfl rfl ?_
    refine o_y (y_move rfl) rfl rfl ?_
    refine wl_nil ?_
    refine e_seq ?_
    refine w_block ?_
    have hIo := hI
    refine w_heap (fun w h => h.f1) ?_
    refine w_loop1 (σ := Nat × List (Ad × Le)) [17, 128, 129, 130, 131, 132, 133, 134, 135, 136, 137, 138, 139] (fun q => q.1 ≤ (lc.getD k2 le0).e.addrs.length ∧ ∀ a, lkp q.2 a = (lkp am1 a).or (if a ∈ (lc.getD k2 le0).e.addrs.take q.1 then some (lc.getD k2 le0) else none)) (fun q => (lc.getD k2 le0).e.addrs.length - q.1) (fun q => [(128, .int .i64 q.1)]) (fun q => Ch.mp r3 encA encE q.2) ((0, am1)) ?_ ⟨rfl, trivial⟩ rfl (fun q hI => ?_)
    ·exact ⟨Nat.zero_le _, fun a => by show _ = (lkp am1 a).or none; cases lkp am1 a <;> rfl⟩
    obtain ⟨j, am2⟩ := q
    dsimp only at hI ⊢
    refine w_seq ?_
    refine w_region ?_
    refine o_y (y_lss rfl rfl) rfl rfl ?_
    refine wl_splitp (t := 129) rfl (fun h23_0 => ?_) (fun h23_0 => ?_)
    ·skip
     refine wl_nil ?_
     refine e_seq ?_
     refine w_seq ?_
     refine w_cond_t rfl ?_
     refine w_skip ?_
     refine e_seq ?_
     refine w_seq ?_
     refine w_block ?_
     refine w_seq ?_
     refine w_region ?_
     refine o_y (y_ixm  Tryz.underlying43 ty_28 rfl rfl (fun w hw => (rd_all (rd_L 3 rfl hw) (mem_flatR (mem_getD (by omega)) _ (elRA _))).1) rfl (by omega)) rfl rfl ?_
     refine o_y (y_ldsm0 enc_ad ad0 ty_28 rfl (fun w hw => (rd_all (rd_L 3 rfl hw) (mem_flatR (mem_getD (by omega)) _ (elRA _))).1) (by omega) rfl rfl rfl) rfl rfl ?_
     refine o_alloc ty_28 rfl rfl (fun b28 => ?_)
     refine o_store ty_28 rfl rfl rfl .z rfl rfl rfl rfl ?_
     refine wl_nil ?_
     refine e_seq ?_
     refine w_drawV 6 mixed ?_
     refine v_take (i := 0) rfl wanted_none (y_move rfl) (fun w h => h) (fun w h => h) rfl (pk_blk (pk_seq (pk_loop (pk_blk (pk_blk (pk_seq (pk_loop (pk_blk (pk_seq pk_fn))))))))) (by kernel_rfl) rfl ?_
     refine v_take (i := 1) rfl wanted_none (y_nilCheck rfl) (fun w h => h) (fun w h => h) rfl (pk_blk (pk_seq (pk_loop (pk_blk (pk_blk (pk_seq (pk_loop (pk_blk (pk_seq pk_fn))))))))) (by kernel_rfl) rfl ?_
     refine v_take (i := 2) rfl wanted_none (y_field fa_91_3 rfl) (fun w h => h) (fun w h => h) rfl (pk_blk (pk_seq (pk_loop (pk_blk (pk_blk (pk_seq (pk_loop (pk_blk (pk_seq pk_fn))))))))) (by kernel_rfl) rfl ?_
     refine v_take (i := 3) rfl wanted_none (y_loadr 6 ty_89 rfl rfl rfl) (fun w h => h) (fun w h => h) rfl (pk_blk (pk_seq (pk_loop (pk_blk (pk_blk (pk_seq (pk_loop (pk_blk (pk_seq pk_fn))))))))) (by kernel_rfl) rfl ?_
     refine v_take (i := 4) rfl wanted_none (y_loadrs 0 ty_28 rfl rfl rfl rfl) (fun w h => h) (fun w h => h) rfl (pk_blk (pk_seq (pk_loop (pk_blk (pk_blk (pk_seq (pk_loop (pk_blk (pk_seq pk_fn))))))))) (by kernel_rfl) rfl ?_
     refine v_take (i := 5) rfl wanted_none (y_loadrs 2 ty_47 rfl rfl rfl rfl) (fun w h => h) (fun w h => h) rfl (pk_blk (pk_seq (pk_loop (pk_blk (pk_blk (pk_seq (pk_loop (pk_blk (pk_seq pk_fn))))))))) (by kernel_rfl) rfl ?_
     refine v_one (i := 6) rfl (by kernel_rfl) rfl ?_
     refine o_callu rfl ent_54 rfl (c_put_a _ r3 _ (lc.getD k2 le0)) (fun o => (.s (.z))) (List.mem_of_getElem? (i := 1) rfl) (fun s hs => nomatch hs) (fun o28 => ?_)
     refine wl_nil ?_
     refine ev_tail rfl ?_
     refine v_done (by kernel_rfl) ?_
     refine e_blk ?_
     refine e_seq ?_
     refine w_region ?_
     refine o_y (y_addi rfl rfl (by omega) (by omega)) rfl rfl ?_
     refine o_y (y_move rfl) rfl rfl ?_
     refine wl_nil ?_
     refine e_back ((j + 1, putF am2 ((lc.getD k2 le0).e.addrs.getD j ad0) (lc.getD k2 le0))) ?_ ?_ ⟨rfl, trivial⟩ (by repeat (first | exact trivial | refine ⟨rfl, ?_⟩)) (fun w h => h.weak (.cons _ (List.Sublist.refl _)) (fun s hs => hs))
     ·exact ⟨by show j + 1 ≤ _; omega, adp_step hI.2 (by omega)⟩
     ·show (lc.getD k2 le0).e.addrs.length - (j + 1) < (lc.getD k2 le0).e.addrs.length - j
      omega
    ·skip
     refine wl_nil ?_
     refine e_seq ?_
     refine w_seq ?_
     refine w_cond_f rfl ?_
     refine w_exit ?_
     refine e_seq_exit ?_
     refine e_loop_exit ?_
     refine e_blk_hit ?_
     refine e_blk ?_
     refine e_seq ?_
     refine w_region ?_
     refine o_y (y_addi rfl rfl (by omega) (by omega)) rfl rfl ?_
     refine o_y (y_move rfl) rfl rfl ?_
     refine wl_nil ?_
     have hj9 : j = (lc.getD k2 le0).e.addrs.length := by omega
     subst hj9
     refine e_back ((k2 + 1, am2)) ?_ ?_ ⟨rfl, trivial⟩ (by repeat (first | exact trivial | refine ⟨rfl, ?_⟩)) (fun w h => h.weak (.cons_cons _ (.cons _ (List.Sublist.refl _))) (fun s hs => hs))
     ·exact ⟨by show k2 + 1 ≤ _; omega, en_step hIo.2 hk2 hI.2⟩
     ·show lc.length - (k2 + 1) < lc.length - k2
      omega
   ·skip
    refine wl_nil ?_
    refine e_seq ?_
    refine w_seq ?_
    refine w_cond_f rfl ?_
    refine w_exit ?_
    refine e_seq_exit ?_
    refine e_loop_exit ?_
    refine e_blk_hit ?_
    refine e_seq ?_
    refine w_seq ?_
    have hAm2 := hI.2
    rw [List.take_of_length_le (by omega)] at hAm2
    refine w_region ?_
    refine o_y (y_move rfl) rfl rfl ?_
    refine o_y (y_assign rfl) rfl rfl ?_
    refine o_y (y_assign rfl) rfl rfl ?_
    refine wl_nil ?_
    refine e_seq ?_
    refine w_ret ?_
    refine e_ret (ts := [4, 5]) rfl rfl rfl (fun w hw => ?_)
    exact ⟨⟨some ⟨b5, Ax, cx, lc, r1, r2, r3, hm, dm, am1⟩, nofun, fun x hx => by cases hx; exact ⟨hHk, ⟨⟨hI9, hI8⟩, hDm, fun a => by rw [hAm2 a, hAm a]⟩⟩⟩, rfl, hw.base, ((Hp.toRall (M := ixR ⟨b5, Ax, cx, lc, r1, r2, r3, hm, dm, am1⟩) hw (fun h9 => (List.forall_mem_cons.2 ⟨h9 _ (.tail _ (.tail _ (.tail _ (.tail _ (.head _))))), (List.forall_mem_cons.2 ⟨SlP.rs (h9 _ (.tail _ (.tail _ (.tail _ (.head _))))), (List.forall_mem_cons.2 ⟨h9 _ (.tail _ (.tail _ (.tail _ (.tail _ (.tail _ (.head _)))))), (List.forall_mem_cons.2 ⟨h9 _ (.tail _ (.head _)), (List.forall_mem_cons.2 ⟨h9 _ (.head _), (List.forall_mem_cons.2 ⟨h9 _ (.tail _ (.tail _ (.head _))), nofun⟩)⟩)⟩)⟩)⟩)⟩)) (List.forall_mem_cons.2 ⟨fun b hb => ⟨_, (.tail _ (.tail _ (.tail _ (.tail _ (.head _))))), hb⟩, (List.forall_mem_cons.2 ⟨fun b hb => ⟨_, (.tail _ (.tail _ (.tail _ (.head _)))), hb.2⟩, (List.forall_mem_cons.2 ⟨fun b hb => ⟨_, (.tail _ (.tail _ (.tail _ (.tail _ (.tail _ (.head _)))))), hb⟩, (List.forall_mem_cons.2 ⟨fun b hb => ⟨_, (.tail _ (.head _)), hb⟩, (List.forall_mem_cons.2 ⟨fun b hb => ⟨_, (.head _), hb⟩, (List.forall_mem_cons.2 ⟨fun b hb => ⟨_, (.tail _ (.tail _ (.head _))), hb⟩, nofun⟩)⟩)⟩)⟩)⟩)⟩)).ixOpen3).toNews⟩
end Go.Proofs.YtfmelbpgkbiooaaGreat
