/- Lists of entries: where each lies; chunks of chunks that are read. -/
import Derived.Test.YtckfjfnkombelaaLnQN
import Derived.Test.YtckfjfnkombelaaPcQN
namespace Go.Proofs.Ytckfjfnkombelaa
open Go.RowKit Go.Shelf
set_option linter.unusedVariables false
set_option linter.unusedSimpArgs false

/-- Chunks that are read, each of them; they may share blocks. -/
def Ch.rall (L : List Ch) : Ch := ⟨fun b => ∃ c ∈ L, c.ok b, fun w => ∀ c ∈ L, c.P w, fun w w' h hk c hc => c.st w w' (h c hc) fun b hb => hk b ⟨c, hc, hb⟩⟩
theorem rd_all {L : List Ch} {c : Ch} {w : World} (h : (Ch.rall L).P w ∧ ∀ b, (Ch.rall L).ok b → b < w.heap.size) (hc : c ∈ L) : c.P w ∧ ∀ b, c.ok b → b < w.heap.size := ⟨h.1 c hc, fun b hb => h.2 b ⟨c, hc, hb⟩⟩
theorem rd_rall {L : List Ch} {w : World} (h : Rd L w) : (Ch.rall L).P w ∧ ∀ b, (Ch.rall L).ok b → b < w.heap.size := ⟨fun c hc => (h c hc).1, fun b ⟨c, hc, hb⟩ => (h c hc).2 b hb⟩
theorem Hp.rall0 {ok0 : Nat → Prop} {w0 w : World} {L S : List Ch} (h : Hp ok0 w0 L S w) : Hp ok0 w0 (Ch.rall [] :: L) S w :=
  h.fresh (Upd.refl _ _) _ (fun c hc => nomatch hc) (fun b ⟨c, hc, _⟩ => nomatch hc) (fun b ⟨c, hc, _⟩ => nomatch hc)
/-- One's own chunk is added to those that are read. -/
theorem Hp.intoR {ok0 : Nat → Prop} {w0 w : World} {c c' : Ch} {M L S : List Ch} (h : Hp ok0 w0 (c :: Ch.rall M :: L) S w) (hc : c.P w → c'.P w) (hb : ∀ b, c'.ok b → c.ok b) : Hp ok0 w0 (Ch.rall (M ++ [c']) :: L) S w := by
  have hM : (Ch.rall M).P w := h.own _ (.tail _ (.head _))
  have hc0 : c.P w := h.own _ (.head _)
  have hp := h.dj
  obtain ⟨p1, p2⟩ := List.pairwise_cons.1 hp
  obtain ⟨p3, p4⟩ := List.pairwise_cons.1 p2
  have key : ∀ b, (Ch.rall (M ++ [c'])).ok b → c.ok b ∨ (Ch.rall M).ok b := fun b ⟨d, hd, hdb⟩ => by
    rcases List.mem_append.1 hd with hd | hd
    · exact .inr ⟨d, hd, hdb⟩
    · rw [List.mem_singleton] at hd; subst hd; exact .inl (hb b hdb)
  refine ⟨h.base, ?_, ?_, ?_, ?_, h.sh, h.slt, ?_⟩
  · intro d hd
    rcases List.mem_cons.1 hd with rfl | hd
    · intro d hd
      rcases List.mem_append.1 hd with hd | hd
      · exact hM d hd
      · rw [List.mem_singleton] at hd; subst hd; exact hc hc0
    · exact h.own d (.tail _ (.tail _ hd))
  · intro d hd b hdb
    rcases List.mem_cons.1 hd with rfl | hd
    · exact (key b hdb).elim (h.lt _ (.head _) b) (h.lt _ (.tail _ (.head _)) b)
    · exact h.lt d (.tail _ (.tail _ hd)) b hdb
  · intro d hd b hdb
    rcases List.mem_cons.1 hd with rfl | hd
    · exact (key b hdb).elim (h.ge _ (.head _) b) (h.ge _ (.tail _ (.head _)) b)
    · exact h.ge d (.tail _ (.tail _ hd)) b hdb
  · exact .cons (fun d hd b hb' => (key b hb').elim (p1 d (.tail _ hd) b) (p3 d hd b)) p4
  · intro s hs d hd b hdb
    rcases List.mem_cons.1 hd with rfl | hd
    · exact (key b hdb).elim (h.sdj s hs _ (.head _) b) (h.sdj s hs _ (.tail _ (.head _)) b)
    · exact h.sdj s hs d (.tail _ (.tail _ hd)) b hdb
/-- All of one's own chunks as one. -/
theorem Hp.toRall {ok0 : Nat → Prop} {w0 w : World} {L M S : List Ch} (h : Hp ok0 w0 L S w) (hP : (∀ c ∈ L, c.P w) → ∀ d ∈ M, d.P w) (hok : ∀ d ∈ M, ∀ b, d.ok b → ∃ c ∈ L, c.ok b) : Hp ok0 w0 [Ch.rall M] S w := by
  have key : ∀ b, (Ch.rall M).ok b → ∃ c ∈ L, c.ok b := fun b ⟨d, hd, hb⟩ => hok d hd b hb
  refine ⟨h.base, ?_, ?_, ?_, List.pairwise_singleton _ _, h.sh, h.slt, ?_⟩
  · intro c hc
    rw [List.mem_singleton] at hc; subst hc
    exact hP h.own
  · intro c hc b hb
    rw [List.mem_singleton] at hc; subst hc
    obtain ⟨d, hd, hdb⟩ := key b hb
    exact h.lt d hd b hdb
  · intro c hc b hb
    rw [List.mem_singleton] at hc; subst hc
    obtain ⟨d, hd, hdb⟩ := key b hb
    exact h.ge d hd b hdb
  · intro s hs c hc b hb
    rw [List.mem_singleton] at hc; subst hc
    obtain ⟨d, hd, hdb⟩ := key b hb
    exact h.sdj s hs d hd b hdb
/-- An entry and where its slices lie. -/
structure Le where
  e : En
  A : Option Addr
  c : Nat
  B : Option Addr
  d : Nat
def elC (x : Le) : List Value := enC x.e x.A x.B x.c x.d
theorem enc_le : Enc elC 7 := ⟨fun _ => rfl, fun _ => rfl⟩
def elR (x : Le) : List Ch := [Ch.rd x.A 3 adC x.e.addrs, Ch.rd x.B 1 enci x.e.ports]
def en0 : En := ⟨[], 0, [], [], [], [], 0⟩
def le0 : Le := ⟨en0, none, 0, none, 0⟩
theorem elR0 : ∀ c ∈ elR le0, ∀ w : World, c.P w ∧ ∀ b, c.ok b → b < w.heap.size := by
  intro c hc w
  simp only [elR, List.mem_cons, List.not_mem_nil, or_false] at hc
  rcases hc with rfl | rfl
  · exact ⟨⟨by simp [le0, en0, fl], (by simp [le0, en0, fl]), .inl rfl⟩, fun b hb => by simp [Ch.rs, le0, en0] at hb⟩
  · exact ⟨⟨by simp [le0, en0, fl], (by simp [le0, en0, fl]), .inl rfl⟩, fun b hb => by simp [Ch.rs, le0, en0] at hb⟩
theorem mem_flatR {l : List Le} {x : Le} (h : x ∈ l) : ∀ c ∈ elR x, c ∈ l.flatMap elR := fun c hc => List.mem_flatMap.2 ⟨x, h, hc⟩
theorem elRA (x : Le) : Ch.rd x.A 3 adC x.e.addrs ∈ elR x := .head _
theorem elRB (x : Le) : Ch.rd x.B 1 enci x.e.ports ∈ elR x := .tail _ (.head _)
/-- An entry's own slices are added to those that are read. -/
theorem Hp.intoE {ok0 : Nat → Prop} {w0 w : World} {M L S : List Ch} {e : En} {A B : Option Addr} {c d : Nat} {T1 T2 : TypeId} (h : Hp ok0 w0 (Ch.ls B d T1 1 enci e.ports :: Ch.ls A c T2 3 adC e.addrs :: Ch.rall M :: L) S w) : Hp ok0 w0 (Ch.rall (M ++ elR ⟨e, A, c, B, d⟩) :: L) S w := by
  have h1 := h.perm (List.perm_middle (l₁ := [Ch.ls A c T2 3 adC e.addrs, Ch.rall M]))
  have h2 := Hp.intoR (c' := Ch.rd A 3 adC e.addrs) h1 SlP.rs (fun b hb => hb.2)
  have h3 := Hp.intoR (c' := Ch.rd B 1 enci e.ports) h2.f1 SlP.rs (fun b hb => hb.2)
  rw [List.append_assoc] at h3
  exact h3
end Go.Proofs.Ytckfjfnkombelaa
