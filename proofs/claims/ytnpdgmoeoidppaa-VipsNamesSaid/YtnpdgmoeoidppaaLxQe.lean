import Derived.Test.YtnpdgmoeoidppaaLsQe
import Derived.Laws.Externs
/- Maps: an entry is laid and then stored to, a key is dropped, a map is cloned; the sum with carry. -/
namespace Go.Proofs.Ytnpdgmoeoidppaa
open Go.RowKit Go.Shelf
set_option linter.unusedVariables false
section
variable {α β : Type} [DecidableEq α] {encK : α → Value} {encV : β → Value}
/-- A map with one entry more than its pairs, whose value is not laid yet. -/
structure MqP (r : Nat) (encK : α → Value) (encV : β → Value) (m : List (α × β)) (a : α) (z : Value) (st : Nat) (w : World) : Prop where
  at_ : ∃ es : Array MapEntry, w.heap[r]? = some (.map (es.push ⟨encK a, z, st⟩) (st + 1)) ∧ es.toList.map (·.key) = m.map (fun p => encK p.1) ∧ es.toList.map (·.val) = m.map (fun p => encV p.2) ∧ (es.toList.map (·.born)).Nodup ∧ ∀ e ∈ es.toList, e.born < st
def Ch.mq (r : Nat) (encK : α → Value) (encV : β → Value) (m : List (α × β)) (a : α) (z : Value) (st : Nat) : Ch :=
  ⟨fun k => k = r, MqP r encK encV m a z st, fun w w' ⟨es, h1, h2⟩ hk => ⟨es, (hk r rfl).trans h1, h2⟩⟩
theorem fk_new {m : List (α × β)} {a : α} (h : bN m a = none) (es : List MapEntry) (h3 : es.map (·.val) = m.map (fun p => encV p.2)) : fk a (m.map (·.1)) es 0 = none := by
  have := fk_lkp (encV := encV) a m es 0 h3
  rw [h] at this
  cases hf : fk a (m.map (·.1)) es 0 with
  | none => rfl
  | some p => rw [hf] at this; cases this
end
theorem cn {α β : Type} (f : α → β) : ∀ (l : List α) (j : Nat), (l.eraseIdx j).map f = (l.map f).eraseIdx j
  | [], _ => rfl
  | _ :: _, 0 => rfl
  | a :: r, j + 1 => congrArg (f a :: ·) (cn f r j)
section
variable {x : Cx} {l : Fr} {L S : List Ch} {Q : Exit → Act → World → Prop} {ops : Array Oper} {rest : List Oper} {d : Nat} {ty : TypeId} {pos : String} {af : Array Edge} {gd : Option (Nat × Bool)}
variable {α β : Type} {encK : α → Value} {encV : β → Value}
theorem o_entSt {t : TypeId} {y z u : Operand} {r i st : Nat} {m : List (α × β)} {a : α} {v : β} {zv : Value} {L' : List Ch} (hy : ev l y = some (.map (some r))) (hz : ev l z = some (.int .i64 st)) (hu : ev l u = some (encV v)) (hi : SetAt L i (Ch.mq r encK encV m a zv st) (Ch.mp r encK encV (m ++ [(a, v)])) L')
    (k : WL x l L' S ops rest Q) : WL x l L S ops (⟨none, .entryStore t y z u, ty, pos, af, none⟩ :: rest) Q :=
  wl_unit rfl rfl (fun _ => nofun) (fun ac w hac hw => by
    obtain ⟨es, h1, h2, h3, h4, h5⟩ := (show MqP r encK encV m a zv st w from hw.own _ hi.mem).at_
    have hlt : r < w.heap.size := (Array.getElem?_eq_some_iff.1 h1).1
    have hidx : (es.push ⟨encK a, zv, st⟩).findIdx? (fun e => ((e.born : Nat) : Int) == ((st : Nat) : Int)) = some es.size := by
      rw [Array.findIdx?_push]
      have h0 : es.findIdx? (fun e => ((e.born : Nat) : Int) == ((st : Nat) : Int)) = none := by
        rw [Array.findIdx?_eq_none_iff]
        intro e he
        have := h5 e (by simpa using he)
        simp; omega
      rw [h0]; simp
    have hmod : (es.push ⟨encK a, zv, st⟩).modify es.size (fun e => { e with val := encV v }) = es.push ⟨encK a, encV v, st⟩ := by
      apply Array.ext (by simp)
      intro j h6 h7
      rw [Array.getElem_modify]
      by_cases hj : es.size = j
      · subst hj; simp
      · have : j < es.size := by simp at h7; omega
        simp [hj, Array.getElem_push, this]
    refine ⟨w.putObj r (.map (es.push ⟨encK a, encV v, st⟩) (st + 1)), ?_, hw.upd hi ⟨rfl, rfl, rfl, by simp, fun k _ hn => World.putObj_heap_other (fun e => hn e), Nat.le_refl _⟩ ?_ (fun b hb => .inl hb)⟩
    · simp [execOp, hac.ev hy, hac.ev hz, hac.ev hu, Instr.entryStore, getObj, setObj, Sem.run, h1, asInt, asIntOf, hidx, hmod, Result.andThen, World.putObj]
    · refine ⟨_, _, World.putObj_heap_same hlt, by simp [h2], by simp [h3], ?_, ?_⟩
      · simp only [Array.toList_push, List.map_append, List.map_cons, List.map_nil]
        rw [List.nodup_append]
        refine ⟨h4, by simp, ?_⟩
        intro b hb c' hc'
        simp at hc'
        obtain ⟨e, he, rfl⟩ := List.mem_map.1 hb
        have := h5 e he
        omega
      · intro e he
        simp only [Array.toList_push, List.mem_append, List.mem_singleton] at he
        rcases he with he | rfl
        · have := h5 e he; omega
        · simp) k
end
section
variable {x : Cx} {l : Fr} {L S : List Ch} {Q : Exit → Act → World → Prop} {ops : Array Oper} {rest : List Oper} {d : Nat} {ty : TypeId} {pos : String} {af : Array Edge} {gd : Option (Nat × Bool)}
variable {α β : Type} [DecidableEq α] {encK : α → Value} {encV : β → Value}
theorem fu {t kt et : TypeId} {y z : Operand} {r i : Nat} {m : List (α × β)} {a : α} {agg : Bool} {sz bytes : Nat} {zv : Value} {L' : Nat → List Ch} (ht : x.P.underlying t = some (.map kt et)) (hk : KeyL x.P kt encK) (he : TyI x.P et agg sz bytes zv) (hy : ev l y = some (.map (some r))) (hz : ev l z = some (encK a)) (hn : bN m a = none) (hi : ∀ st, SetAt L i (Ch.mp r encK encV m) (Ch.mq r encK encV m a zv st) (L' st)) (hN : Nat.blt d x.N = true)
    (k : ∀ st : Nat, WL x ((d, .tuple [zv, .int .i64 st].toArray) :: l) (L' st) S ops rest Q) : WL x l L S ops (⟨some d, .mapEntry t y z, ty, pos, af, none⟩ :: rest) Q :=
  dd (fun st : Nat => .tuple [zv, .int .i64 st].toArray) L' (fun _ => S) rfl rfl (fun _ => nofun) hN (fun ac w hac hw => by
    obtain ⟨es, c, h1, h2, h3, h4, h5⟩ := (show MpP r encK encV m w from hw.own _ (hi 0).mem).at_
    have hfind := hk.find a (m.map (·.1)) es.toList w (by rw [h2, List.map_map]; rfl)
    rw [fk_new hn es.toList h3] at hfind
    have hlt : r < w.heap.size := (Array.getElem?_eq_some_iff.1 h1).1
    refine ⟨c, w.putObj r (.map (es.push ⟨encK a, zv, c⟩) (c + 1)), ?_, hw.upd (hi c) ⟨rfl, rfl, rfl, by simp, fun k _ hn => World.putObj_heap_other (fun e => hn e), Nat.le_refl _⟩ ?_ (fun b hb => .inl hb)⟩
    · simp [execOp, hac.ev hy, hac.ev hz, Instr.mapEntry, run_underlying ht, getObj, setObj, Sem.run, h1, hk.chk, hfind, he.zero, Result.andThen, World.putObj, goInt]
    · exact ⟨es, World.putObj_heap_same hlt, h2, h3, h4, h5⟩) k
theorem rmv_none {m : List (α × β)} {a : α} (h : bN m a = none) : rmv m a = m := by
  induction m with
  | nil => rfl
  | cons p r ih =>
    obtain ⟨b, u⟩ := p
    rw [bN] at h
    by_cases e : a = b
    · rw [if_pos e] at h; cases h
    · rw [if_neg e] at h
      rw [rmv, if_neg e, ih h]
theorem o_mapDel {t kt et : TypeId} {y z : Operand} {tz : TypeId} {r i : Nat} {m : List (α × β)} {a : α} {L' : List Ch} (ht : x.P.underlying t = some (.map kt et)) (hk : KeyL x.P kt encK) (hy : ev l y = some (.map (some r))) (hz : ev l z = some (encK a)) (hi : SetAt L i (Ch.mp r encK encV m) (Ch.mp r encK encV (rmv m a)) L')
    (k : WL x l L' S ops rest Q) : WL x l L S ops (⟨none, .call { callee := .builtin .delete, args := #[y, z], argTypes := #[t, tz] }, ty, pos, af, none⟩ :: rest) Q :=
  ea rfl (fun _ => nofun) fun ac w hac hw => by
    have main : ∃ w', (execOp ac.eval ⟨none, .call { callee := .builtin .delete, args := #[y, z], argTypes := #[t, tz] }, ty, pos, af, none⟩).run x.P w = .ok (.value (.tuple #[])) w' ∧ Hp x.ok0 x.w0 L' S w' := by
      obtain ⟨es, c, h1, h2, h3, h4, h5⟩ := (show MpP r encK encV m w from hw.own _ hi.mem).at_
      have hfind := hk.find a (m.map (·.1)) es.toList w (by rw [h2, List.map_map]; rfl)
      have hlt : r < w.heap.size := (Array.getElem?_eq_some_iff.1 h1).1
      have hl : es.toList.length = m.length := by have := congrArg List.length h2; simpa using this
      cases hf : fk a (m.map (·.1)) es.toList 0 with
      | none =>
        rw [hf] at hfind
        have hno : bN m a = none := by
          have := fk_lkp (encV := encV) a m es.toList 0 h3
          rw [hf] at this
          cases hq : bN m a with
          | none => rfl
          | some u => rw [hq] at this; cases this
        refine ⟨w.putObj r (.map es c), ?_, hw.upd hi ⟨rfl, rfl, rfl, by simp, fun k _ hn => World.putObj_heap_other (fun e => hn e), Nat.le_refl _⟩ ?_ (fun b hb => .inl hb)⟩
        · have : (Builtin.delete_ #[t, tz] ty #[.map (some r), encK a]).run x.P w = .ok (.tuple #[]) (w.putObj r (.map es c)) := by
            simp [Builtin.delete_, run_underlying ht, getObj, setObj, Sem.run, h1, hk.chk, hfind, Result.andThen, World.putObj]
          simp only [execOp, resolve, invoke, builtin]
          simp [hac.ev hy, hac.ev hz, this]
        · exact ⟨es, c, World.putObj_heap_same hlt, by rw [rmv_none hno]; exact h2, by rw [rmv_none hno]; exact h3, h4, h5⟩
      | some p =>
        obtain ⟨j, u0⟩ := p
        rw [hf] at hfind
        obtain ⟨_, ⟨e, he⟩, hm, hq⟩ := fk_some (encV := encV) a m es.toList 0 j u0 hl hf
        simp only [Nat.sub_zero] at he hm hq
        have hj : j < es.size := by have := (List.getElem?_eq_some_iff.1 he).1; simpa using this
        have hrm : rmv m a = m.eraseIdx j := by
          cases hq0 : m[j]? with
          | none => rw [List.getElem?_map, hq0] at hm; cases hm
          | some p => exact (hq p.2).2.2
        refine ⟨w.putObj r (.map (es.eraseIdxIfInBounds j) c), ?_, hw.upd hi ⟨rfl, rfl, rfl, by simp, fun k _ hn => World.putObj_heap_other (fun e => hn e), Nat.le_refl _⟩ ?_ (fun b hb => .inl hb)⟩
        · have : (Builtin.delete_ #[t, tz] ty #[.map (some r), encK a]).run x.P w = .ok (.tuple #[]) (w.putObj r (.map (es.eraseIdxIfInBounds j) c)) := by
            simp [Builtin.delete_, run_underlying ht, getObj, setObj, Sem.run, h1, hk.chk, hfind, Result.andThen, World.putObj]
          simp only [execOp, resolve, invoke, builtin]
          simp [hac.ev hy, hac.ev hz, this]
        · have hle : (es.eraseIdxIfInBounds j).toList = es.toList.eraseIdx j := by simp [Array.eraseIdxIfInBounds, hj]
          refine ⟨_, c, World.putObj_heap_same hlt, ?_, ?_, ?_, ?_⟩
          · rw [hle, hrm, cn, cn, h2]
          · rw [hle, hrm, cn, cn, h3]
          · rw [hle, cn]; exact h4.sublist (List.eraseIdx_sublist _ _)
          · rw [hle]; exact fun e he => h5 e ((List.eraseIdx_sublist _ _).subset he)
    obtain ⟨w', h1, h2⟩ := main
    rw [h1]
    show wpListIn _ _ _ _ _ _ (ac.put none _) w'
    exact k _ _ (hac.skip _) h2
theorem y_add64 {g : Nat} {fn : Func} {ya yb yc : Operand} {a b c : Int} {tys : Array TypeId} (hf : x.P.funcs[g]? = some fn) (hname : (fn.name == "runtime.NumGoroutine") = false) (hb : fn.body.isNone = true) (hn : Extern.findNext fn = none) (he : Extern.find fn = some add64Entry) (hya : ev l ya = some (.int .u64 a)) (hyb : ev l yb = some (.int .u64 b)) (hyc : ev l yc = some (.int .u64 c)) (ha0 : 0 ≤ a) (hb0 : 0 ≤ b) (hc0 : 0 ≤ c ∧ c ≤ 1) :
    Yv x l L S ⟨some d, .call { callee := .value (.func g), args := #[ya, yb, yc], argTypes := tys }, ty, pos, af, gd⟩ (.tuple #[.int .u64 ((a + b + c) % 18446744073709551616), .int .u64 ((a + b + c) / 18446744073709551616)]) := fun ac w hac hw => by
  have e := run_callFunc_extern (P := x.P) hf hname hb hn he #[.int .u64 a, .int .u64 b, .int .u64 c] w
  rw [run_add64 a b c ha0 hb0 hc0.1 hc0.2] at e
  simp only [Result.andThen] at e
  have hg : ac.eval (.func g) = .func (.func g) #[] #[] := rfl
  simp [execOp, resolve, hg, Deferred.ofValue, invoke, hac.ev hya, hac.ev hyb, hac.ev hyc, e]
end
end Go.Proofs.Ytnpdgmoeoidppaa

/- Regions with open order whose states are met more than once. -/
namespace Go.Proofs.Ytnpdgmoeoidppaa
open Go.RowKit Go.Shelf
set_option linter.unusedVariables false
section
variable {x : Cx} {C : World → Prop} {l : Fr} {L S : List Ch} {Q : Exit → Act → World → Prop} {ops : Array Oper} {fuel m : Nat} {listed : Array Bool}
end
end Go.Proofs.Ytnpdgmoeoidppaa
