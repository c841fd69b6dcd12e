import Derived.WalkKit
import Derived.WalkLawsBesides
import Derived.RangeFuncNested
import Derived.OwnWalkIn
import Derived.TacticsInMore
import Derived.Shelf.Abstract
/- The seat's own words: a judgement on frames known in part and on a heap of disjoint chunks; one rule for each kind of operation. Generic over the program. -/
namespace Go.Proofs.YtnpdgmoeoidppaaGreat
open Go.RowKit Go.Shelf

def fw (ro : Option Nat) : Fence := { Fence.wide with round := ro }
theorem aG {p : World → Prop} : ∀ w, p w → p w := fun _ h => h
theorem fw_dep (ro : Option Nat) : (fw ro).depth = none := rfl
def no : Nat → Prop := fun _ => False

/-! Draws rise. -/
/-- What lay in w lies as it lay, but for the blocks of 'ok'. -/
structure Upd (ok : Nat → Prop) (w w' : World) : Prop where
  os : w'.os = w.os
  tape : w'.tape = w.tape
  output : w'.output = w.output
  size : w.heap.size ≤ w'.heap.size
  block : ∀ k, k < w.heap.size → ¬ ok k → w'.heap[k]? = w.heap[k]?
  drawn : w.drawn ≤ w'.drawn
theorem Upd.refl (ok : Nat → Prop) (w : World) : Upd ok w w := ⟨rfl, rfl, rfl, Nat.le_refl _, fun _ _ _ => rfl, Nat.le_refl _⟩
theorem Upd.trans {ok ok' : Nat → Prop} {a b c : World} (h : Upd ok a b) (k : Upd ok' b c) (hk : ∀ i, i < a.heap.size → ok' i → ok i) : Upd ok a c :=
  ⟨k.os.trans h.os, k.tape.trans h.tape, k.output.trans h.output, Nat.le_trans h.size k.size, fun i hi hn =>
    (k.block i (Nat.lt_of_lt_of_le hi h.size) (fun h' => hn (hk i hi h'))).trans (h.block i hi hn), Nat.le_trans h.drawn k.drawn⟩
theorem Upd.mono {ok ok' : Nat → Prop} {a b : World} (h : Upd ok a b) (hk : ∀ i, i < a.heap.size → ok i → ok' i) : Upd ok' a b :=
  ⟨h.os, h.tape, h.output, h.size, fun i hi hn => h.block i hi (fun h' => hn (hk i hi h')), h.drawn⟩
theorem Upd.drew {ok : Nat → Prop} {a b : World} (h : Upd ok a b) : Upd ok a b.drew := ⟨h.os, h.tape, h.output, h.size, h.block, Nat.le_trans h.drawn (Nat.le_succ _)⟩
theorem Upd.below {w w' : World} (h : Upd no w w') : Below w.heap.size w w' := ⟨h.os, h.tape, h.output, h.size, fun k hk => h.block k hk id⟩
theorem Upd.alloc (w : World) (o : Obj) : Upd no w (w.alloc o) := have b := (Below.refl _ w).alloc (Nat.le_refl _) o; ⟨b.os, b.tape, b.output, b.size, fun k hk _ => b.block k hk, Nat.le_refl _⟩
theorem Upd.setCell (w : World) (a : Addr) (v : Value) : Upd (fun k => k = a.block) w (w.setCell a v) :=
  ⟨rfl, rfl, rfl, by simp [World.setCell], fun k _ hn => Below.heap_setCell w a v k hn, Nat.le_refl _⟩

/-- A chunk of the heap: its blocks, what is said of them, and that this hangs on them alone. -/
structure Ch where
  ok : Nat → Prop
  P : World → Prop
  st : ∀ w w', P w → (∀ b, ok b → w'.heap[b]? = w.heap[b]?) → P w'

def Ch.obj (b : Nat) (o : Obj) : Ch := ⟨fun k => k = b, fun w => w.heap[b]? = some o, fun _ _ h k => (k b rfl).trans h⟩
/-- A block of cells. -/
def Ch.row (b : Nat) (cs : List Value) (T : TypeId) : Ch := Ch.obj b (.cells cs.toArray T (0, 0))

structure Hp (ok0 : Nat → Prop) (w0 : World) (L S : List Ch) (w : World) : Prop where
  base : Upd ok0 w0 w
  own : ∀ c ∈ L, c.P w
  lt : ∀ c ∈ L, ∀ b, c.ok b → b < w.heap.size
  ge : ∀ c ∈ L, ∀ b, c.ok b → ok0 b ∨ w0.heap.size ≤ b
  dj : L.Pairwise fun c d => ∀ b, c.ok b → ¬ d.ok b
  sh : ∀ s ∈ S, s.P w
  slt : ∀ s ∈ S, ∀ b, s.ok b → b < w.heap.size
  sdj : ∀ s ∈ S, ∀ c ∈ L, ∀ b, c.ok b → ¬ s.ok b

section hp
variable {ok0 : Nat → Prop} {w0 : World} {L S : List Ch} {w w' : World}
theorem Hp.start (ok0 : Nat → Prop) (S : List Ch) (w : World) (hS : ∀ s ∈ S, s.P w) (hlt : ∀ s ∈ S, ∀ b, s.ok b → b < w.heap.size) : Hp ok0 w [] S w :=
  ⟨Upd.refl _ _, (by simp), (by simp), (by simp), .nil, hS, hlt, fun _ _ c hc => by cases hc⟩
/-- A step that turns nothing that lay (a call, a draw). -/
theorem Hp.ext (h : Hp ok0 w0 L S w) (u : Upd no w w') : Hp ok0 w0 L S w' :=
  ⟨h.base.trans u (fun _ _ h => h.elim), fun c hc => c.st w w' (h.own c hc) fun b hb => u.block b (h.lt c hc b hb) id, fun c hc b hb => Nat.lt_of_lt_of_le (h.lt c hc b hb) u.size, h.ge, h.dj,
   fun s hs => s.st w w' (h.sh s hs) fun b hb => u.block b (h.slt s hs b hb) id, fun s hs b hb => Nat.lt_of_lt_of_le (h.slt s hs b hb) u.size, h.sdj⟩
theorem Hp.drew (h : Hp ok0 w0 L S w) : Hp ok0 w0 L S w.drew := h.ext (Upd.refl _ _).drew
/-- A new chunk, of blocks laid since. -/
theorem Hp.fresh (h : Hp ok0 w0 L S w) (u : Upd no w w') (c : Ch) (hc : c.P w') (hlo : ∀ b, c.ok b → w.heap.size ≤ b) (hhi : ∀ b, c.ok b → b < w'.heap.size) : Hp ok0 w0 (c :: L) S w' := by
  have k := h.ext u
  refine ⟨k.base, ?_, ?_, ?_, ?_, k.sh, k.slt, ?_⟩
  · simpa using ⟨hc, k.own⟩
  · simpa using ⟨hhi, k.lt⟩
  · simpa using ⟨fun b hb => .inr (Nat.le_trans h.base.size (hlo b hb)), k.ge⟩
  · exact .cons (fun d hd b hb hb' => by have := h.lt d hd b hb'; have := hlo b hb; omega) k.dj
  · intro s hs d hd b hb
    rcases List.mem_cons.1 hd with rfl | hd
    · exact fun h' => by have := h.slt s hs b h'; have := hlo b hb; omega
    · exact h.sdj s hs d hd b hb
/-- A new chunk to be read alone: each of its blocks is new, or lies in a chunk that is read alone. -/
theorem Hp.share (h : Hp ok0 w0 L S w) (u : Upd no w w') (c : Ch) (hc : c.P w') (hb : ∀ b, c.ok b → (w.heap.size ≤ b ∧ b < w'.heap.size) ∨ ∃ s ∈ S, s.ok b) : Hp ok0 w0 L (c :: S) w' := by
  have k := h.ext u
  refine ⟨k.base, k.own, k.lt, k.ge, k.dj, ?_, ?_, ?_⟩
  · simpa using ⟨hc, k.sh⟩
  · refine List.forall_mem_cons.2 ⟨fun b hb' => ?_, k.slt⟩
    rcases hb b hb' with h1 | ⟨s, hs, h1⟩
    · exact h1.2
    · exact k.slt s hs b h1
  · refine List.forall_mem_cons.2 ⟨fun d hd b hbd hb' => ?_, k.sdj⟩
    rcases hb b hb' with h1 | ⟨s, hs, h1⟩
    · have := h.lt d hd b hbd; omega
    · exact h.sdj s hs d hd b hbd h1
theorem Hp.alloc (h : Hp ok0 w0 L S w) (o : Obj) : Hp ok0 w0 (Ch.obj w.heap.size o :: L) S (w.alloc o) :=
  h.fresh (Upd.alloc w o) _ (World.alloc_heap_new w o) (fun b hb => Nat.le_of_eq hb.symm) (fun b hb => by rw [show b = w.heap.size from hb]; simp)

/-- Chunk i, and the list with another in its place. -/
inductive SetAt : List Ch → Nat → Ch → Ch → List Ch → Prop
  | z {c c' L} : SetAt (c :: L) 0 c c' (c' :: L)
  | s {d L i c c' L'} : SetAt L i c c' L' → SetAt (d :: L) (i + 1) c c' (d :: L')
theorem SetAt.mem {L L' : List Ch} {i : Nat} {c c' : Ch} (h : SetAt L i c c' L') : c ∈ L := by
  induction h with
  | z => exact List.mem_cons_self
  | s _ ih => exact List.mem_cons_of_mem _ ih
theorem SetAt.sub {L L' : List Ch} {i : Nat} {c c' : Ch} (h : SetAt L i c c' L') : ∀ d ∈ L', d = c' ∨ d ∈ L := by
  induction h with
  | z =>
    intro d hd
    rcases List.mem_cons.1 hd with e | h
    · exact .inl e
    · exact .inr (List.mem_cons_of_mem _ h)
  | s _ ih =>
    intro d hd
    rcases List.mem_cons.1 hd with rfl | h
    · exact .inr List.mem_cons_self
    · rcases ih d h with e | h
      · exact .inl e
      · exact .inr (List.mem_cons_of_mem _ h)
theorem SetAt.pw {L L' : List Ch} {i : Nat} {c c' : Ch} (h : SetAt L i c c' L') {R : Ch → Ch → Prop} (hs : ∀ a b, R a b → R b a) (hp : L.Pairwise R) (hR : ∀ d ∈ L, R c d → R c' d) : L'.Pairwise R := by
  induction h with
  | z =>
    rw [List.pairwise_cons] at hp ⊢
    exact ⟨fun d hd => hR d (List.mem_cons_of_mem _ hd) (hp.1 d hd), hp.2⟩
  | @s d L i c c' L' h ih =>
    rw [List.pairwise_cons] at hp ⊢
    refine ⟨fun e he => ?_, ih hp.2 (fun e he => hR e (List.mem_cons_of_mem _ he))⟩
    rcases h.sub e he with rfl | he
    · exact hs _ _ (hR d List.mem_cons_self (hs _ _ (hp.1 _ h.mem)))
    · exact hp.1 e he
theorem SetAt.others {L L' : List Ch} {i : Nat} {c c' : Ch} (h : SetAt L i c c' L') {R : Ch → Ch → Prop} (hs : ∀ a b, R a b → R b a) (hp : L.Pairwise R) : ∀ d ∈ L', d = c' ∨ (d ∈ L ∧ R c d) := by
  induction h with
  | z =>
    rw [List.pairwise_cons] at hp
    intro d hd
    rcases List.mem_cons.1 hd with e | hd
    · exact .inl e
    · exact .inr ⟨List.mem_cons_of_mem _ hd, hp.1 d hd⟩
  | @s d L i c c' L' h ih =>
    rw [List.pairwise_cons] at hp
    intro e he
    rcases List.mem_cons.1 he with rfl | he
    · exact .inr ⟨List.mem_cons_self, hs _ _ (hp.1 _ h.mem)⟩
    · rcases ih hp.2 e he with e1 | ⟨h1, h2⟩
      · exact .inl e1
      · exact .inr ⟨List.mem_cons_of_mem _ h1, h2⟩
/-- A step that turns the blocks of chunk i alone; its new blocks are of these, or new. -/
theorem Hp.upd {L' : List Ch} {i : Nat} {c c' : Ch} (h : Hp ok0 w0 L S w) (hi : SetAt L i c c' L') (u : Upd c.ok w w') (hc : c'.P w') (hb : ∀ b, c'.ok b → c.ok b ∨ (w.heap.size ≤ b ∧ b < w'.heap.size)) : Hp ok0 w0 L' S w' := by
  have hm := hi.mem
  have hoth := hi.others (R := fun c d => ∀ b, c.ok b → ¬ d.ok b) (fun a b h x h1 h2 => h x h2 h1) h.dj
  have hblk : ∀ b, b < w.heap.size → ¬ c.ok b → w'.heap[b]? = w.heap[b]? := u.block
  refine ⟨h.base.trans u (fun k hk hck => ?_), ?_, ?_, ?_, ?_, ?_, ?_, ?_⟩
  · rcases h.ge c hm k hck with h1 | h1
    · exact h1
    · omega
  · intro d hd
    rcases hoth d hd with rfl | ⟨hd, hR⟩
    · exact hc
    · exact d.st w w' (h.own d hd) fun b hb' => hblk b (h.lt d hd b hb') fun hcb => hR b hcb hb'
  · intro d hd b hdb
    rcases hoth d hd with rfl | ⟨hd, hR⟩
    · rcases hb b hdb with h1 | h1
      · exact Nat.lt_of_lt_of_le (h.lt c hm b h1) u.size
      · exact h1.2
    · exact Nat.lt_of_lt_of_le (h.lt d hd b hdb) u.size
  · intro d hd b hdb
    rcases hoth d hd with rfl | ⟨hd, hR⟩
    · rcases hb b hdb with h1 | h1
      · exact h.ge c hm b h1
      · exact .inr (Nat.le_trans h.base.size h1.1)
    · exact h.ge d hd b hdb
  · refine hi.pw (fun a b h x h1 h2 => h x h2 h1) h.dj ?_
    intro d hd hR b hcb hdb
    rcases hb b hcb with h1 | h1
    · exact hR b h1 hdb
    · have := h.lt d hd b hdb; omega
  · exact fun s hs => s.st w w' (h.sh s hs) fun b hb' => hblk b (h.slt s hs b hb') fun hcb => h.sdj s hs c hm b hcb hb'
  · exact fun s hs b hb' => Nat.lt_of_lt_of_le (h.slt s hs b hb') u.size
  · intro s hs d hd b hdb hsb
    rcases hoth d hd with rfl | ⟨hd, hR⟩
    · rcases hb b hdb with h1 | h1
      · exact h.sdj s hs c hm b h1 hsb
      · have := h.slt s hs b hsb; omega
    · exact h.sdj s hs d hd b hdb hsb
/-- What is said may be weakened. -/
theorem Hp.weak {L' S' : List Ch} (h : Hp ok0 w0 L S w) (hL : L'.Sublist L) (hS : ∀ s ∈ S', s ∈ S) : Hp ok0 w0 L' S' w :=
  ⟨h.base, fun c hc => h.own c (hL.subset hc), fun c hc => h.lt c (hL.subset hc), fun c hc => h.ge c (hL.subset hc), h.dj.sublist hL, fun s hs => h.sh s (hS s hs), fun s hs => h.slt s (hS s hs),
   fun s hs c hc => h.sdj s (hS s hs) c (hL.subset hc)⟩
/-- A chunk may be left to be read alone. -/
theorem bq (n : Nat) {ok0 : Nat → Prop} {w0 : World} {L S : List Ch} : ∀ w, Hp ok0 w0 L S w → Hp ok0 w0 (L.drop n) S w := fun _ h => h.weak (List.drop_sublist n L) (fun _ hs => hs)
theorem Hp.freeze {c : Ch} (h : Hp ok0 w0 (c :: L) S w) : Hp ok0 w0 L (c :: S) w :=
  ⟨h.base, fun d hd => h.own d (List.mem_cons_of_mem _ hd), fun d hd => h.lt d (List.mem_cons_of_mem _ hd), fun d hd => h.ge d (List.mem_cons_of_mem _ hd), (List.pairwise_cons.1 h.dj).2,
   List.forall_mem_cons.2 ⟨h.own c List.mem_cons_self, h.sh⟩, List.forall_mem_cons.2 ⟨h.lt c List.mem_cons_self, h.slt⟩,
   List.forall_mem_cons.2 ⟨fun d hd b hdb hcb => (List.pairwise_cons.1 h.dj).1 d hd b hcb hdb, fun s hs d hd => h.sdj s hs d (List.mem_cons_of_mem _ hd)⟩⟩
/-- A chunk may say less, of fewer of its blocks. -/
theorem Hp.turn {L' : List Ch} {i : Nat} {c c' : Ch} (h : Hp ok0 w0 L S w) (hi : SetAt L i c c' L') (hc : c.P w → c'.P w) (hb : ∀ b, c'.ok b → c.ok b) : Hp ok0 w0 L' S w :=
  h.upd hi (Upd.refl _ _) (hc (h.own c hi.mem)) (fun b hb' => .inl (hb b hb'))
end hp

/-! ### Frames -/
abbrev Fr := List (Nat × Value)
def look : Fr → Nat → Option Value
  | [], _ => none
  | (k, v) :: r, t => match Nat.beq k t with
    | true => some v
    | false => look r t
structure Kn (N : Nat) (ds : List Deferred) (l : Fr) (a : Act) : Prop where
  sz : a.tmps.size = N
  df : a.defers = ds
  kn : ∀ t v, look l t = some v → a.tmps[t]? = some v
def ev (l : Fr) : Operand → Option Value
  | .tmp t => look l t
  | .const v => some v
  | .global g => some (.pointer (some ⟨g, 0, none⟩))
  | .func f => some (.func (.func f) #[] #[])
theorem Kn.ev {N : Nat} {ds : List Deferred} {l : Fr} {a : Act} (h : Kn N ds l a) {x : Operand} {v : Value} (hx : ev l x = some v) : a.eval x = v := by
  cases x with
  | tmp t => have := h.kn t v hx; simp [Act.eval, this]
  | const u => exact Option.some.inj hx
  | global g => exact Option.some.inj hx
  | func f => exact Option.some.inj hx
theorem Kn.put {N : Nat} {ds : List Deferred} {l : Fr} {a : Act} (h : Kn N ds l a) {d : Nat} (hd : d < N) (v : Value) : Kn N ds ((d, v) :: l) (a.put (some d) v) := by
  refine ⟨by simp [Act.put, h.sz], h.df, fun t u ht => ?_⟩
  simp only [look] at ht
  simp only [Act.put]
  cases e : Nat.beq d t with
  | true =>
    rw [e] at ht; simp only [Option.some.injEq] at ht
    have := Nat.eq_of_beq_eq_true e; subst this; subst ht
    simp [h.sz, hd]
  | false =>
    rw [e] at ht
    have hne : d ≠ t := Nat.ne_of_beq_eq_false e
    rw [Array.getElem?_setIfInBounds_ne hne]
    exact h.kn t u ht
theorem Kn.skip {N : Nat} {ds : List Deferred} {l : Fr} {a : Act} (h : Kn N ds l a) (v : Value) : Kn N ds l (a.put none v) := h
theorem Kn.nil {N : Nat} {ds : List Deferred} {a : Act} (h1 : a.tmps.size = N) (h2 : a.defers = ds) : Kn N ds [] a := ⟨h1, h2, fun _ _ h => by cases h⟩
theorem Kn.mono {N : Nat} {ds : List Deferred} {l l' : Fr} {a : Act} (h : Kn N ds l a) (hs : ∀ t v, look l' t = some v → look l t = some v) : Kn N ds l' a := ⟨h.sz, h.df, fun t v ht => h.kn t v (hs t v ht)⟩

/-- What l' knows l knows: l' laid out. -/
def Knows (l : Fr) : Fr → Prop
  | [] => True
  | (k, v) :: r => look l k = some v ∧ Knows l r
theorem Knows.look {l l' : Fr} (h : Knows l l') : ∀ t v, look l' t = some v → look l t = some v := by
  induction l' with
  | nil => intro t v h; cases h
  | cons p r ih =>
    obtain ⟨k, u⟩ := p
    intro t v ht
    simp only [Go.Proofs.YtnpdgmoeoidppaaGreat.look] at ht
    cases e : Nat.beq k t with
    | true => rw [e] at ht; cases ht; have := Nat.eq_of_beq_eq_true e; subst this; exact h.1
    | false => rw [e] at ht; exact ih h.2 t v ht
/-! ### The judgement -/
structure Cx where
  P : Program
  ro : Option Nat
  N : Nat
  ds : List Deferred
  ok0 : Nat → Prop
  w0 : World
def W (x : Cx) (l : Fr) (L S : List Ch) (c : Code) (Q : Exit → Act → World → Prop) : Prop :=
  ∀ a w, Kn x.N x.ds l a → Hp x.ok0 x.w0 L S w → c.wpIn (fw x.ro) 0 x.P Q a w
def WL (x : Cx) (l : Fr) (L S : List Ch) (ops : Array Oper) (rest : List Oper) (Q : Exit → Act → World → Prop) : Prop :=
  ∀ a w, Kn x.N x.ds l a → Hp x.ok0 x.w0 L S w → wpListIn (fw x.ro) 0 x.P ops Q rest a w
def E (x : Cx) (l : Fr) (L S : List Ch) (e : Exit) (Q : Exit → Act → World → Prop) : Prop :=
  ∀ a w, Kn x.N x.ds l a → Hp x.ok0 x.w0 L S w → Q e a w
/-- What is asked when the code ahead has ended: y is walked. -/
def Qs (x : Cx) (y : Code) (Q : Exit → Act → World → Prop) : Exit → Act → World → Prop := Exit.then (y.wpIn (fw x.ro) 0 x.P Q) Q
def Qb (id : Nat) (Q : Exit → Act → World → Prop) : Exit → Act → World → Prop := Exit.inBlock id Q

section rules
variable {x : Cx} {l : Fr} {L S : List Ch} {Q : Exit → Act → World → Prop}
theorem ap {c y : Code} (h : W x l L S c (Qs x y Q)) : W x l L S (c.seq y) Q := fun a w ha hw => wpIn_seq (h a w ha hw)
theorem aS {id : Nat} {c : Code} (h : W x l L S c (Qb id Q)) : W x l L S (.block id c) Q := fun a w ha hw => wpIn_block (h a w ha hw)
theorem ae {id : Nat} {ops : List Oper} (h : WL x l L S ops.toArray ops Q) : W x l L S (.region id ops.toArray false) Q := fun a w ha hw => wpIn_region_lit (h a w ha hw)
theorem aQ (h : E x l L S .normal Q) : W x l L S .skip Q := fun a w ha hw => wpIn_skip (h a w ha hw)
theorem bJ {id : Nat} (h : E x l L S (.exit id) Q) : W x l L S (.exit id) Q := fun a w ha hw => wpIn_exit (h a w ha hw)
theorem aN (h : E x l L S .ret Q) : W x l L S .ret Q := fun a w ha hw => wpIn_ret (h a w ha hw)
theorem aa {ops : Array Oper} (h : E x l L S .normal Q) : WL x l L S ops [] Q := fun a w ha hw => wpListIn_nil (h a w ha hw)
theorem aA {c : Operand} {y z : Code} (hc : ev l c = some (.bool true)) (h : W x l L S y Q) : W x l L S (.cond c y z) Q := fun a w ha hw => wpIn_cond_true (ha.ev hc) (h a w ha hw)
theorem aD {c : Operand} {y z : Code} (hc : ev l c = some (.bool false)) (h : W x l L S z Q) : W x l L S (.cond c y z) Q := fun a w ha hw => wpIn_cond_false (ha.ev hc) (h a w ha hw)
theorem aj {y : Code} (h : W x l L S y Q) : E x l L S .normal (Qs x y Q) := fun a w ha hw => h a w ha hw
theorem aV {y : Code} {id : Nat} (h : E x l L S (.exit id) Q) : E x l L S (.exit id) (Qs x y Q) := fun a w ha hw => h a w ha hw
theorem ax {y : Code} (h : E x l L S .ret Q) : E x l L S .ret (Qs x y Q) := fun a w ha hw => h a w ha hw
theorem bj {id : Nat} (h : E x l L S .normal Q) : E x l L S .normal (Qb id Q) := fun a w ha hw => h a w ha hw
theorem aJ {id : Nat} (h : E x l L S .ret Q) : E x l L S .ret (Qb id Q) := fun a w ha hw => h a w ha hw
theorem a8 {id : Nat} (h : E x l L S .normal Q) : E x l L S (.exit id) (Qb id Q) := fun a w ha hw => by simpa [Qb, Exit.inBlock] using h a w ha hw
theorem fe {id id' : Nat} (hne : Nat.beq id id' = false) (h : E x l L S (.exit id) Q) : E x l L S (.exit id) (Qb id' Q) := fun a w ha hw => by
  simpa [Qb, Exit.inBlock, Nat.ne_of_beq_eq_false hne] using h a w ha hw
theorem cz {L' S' : List Ch} {c : Code} (hs : ∀ w, Hp x.ok0 x.w0 L S w → Hp x.ok0 x.w0 L' S' w) (h : W x l L' S' c Q) : W x l L S c Q := fun a w ha hw => h a w ha (hs w hw)
theorem wl_heap {L' S' : List Ch} {ops : Array Oper} {rest : List Oper} (hs : ∀ w, Hp x.ok0 x.w0 L S w → Hp x.ok0 x.w0 L' S' w) (h : WL x l L' S' ops rest Q) : WL x l L S ops rest Q := fun a w ha hw => h a w ha (hs w hw)
/-- A fact may be read off the heap. -/
theorem w_fact {p : Prop} {c : Code} (hp : ∀ w, Hp x.ok0 x.w0 L S w → p) (h : p → W x l L S c Q) : W x l L S c Q := fun a w ha hw => h (hp w hw) a w ha hw
theorem wl_fact {p : Prop} {ops : Array Oper} {rest : List Oper} (hp : ∀ w, Hp x.ok0 x.w0 L S w → p) (h : p → WL x l L S ops rest Q) : WL x l L S ops rest Q := fun a w ha hw => h (hp w hw) a w ha hw

variable {ops : Array Oper} {rest : List Oper}
/-- A bool in a slot is taken apart. -/
theorem ay {t : Nat} {p : Prop} [Decidable p] (h : look l t = some (.bool (decide p))) (ht : p → WL x ((t, .bool true) :: l) L S ops rest Q) (hf : ¬ p → WL x ((t, .bool false) :: l) L S ops rest Q) : WL x l L S ops rest Q := fun a w ha hw => by
  have key : ∀ b, decide p = b → Kn x.N x.ds ((t, .bool b) :: l) a := fun b hb => ha.mono fun t' v' h' => by
    simp only [look] at h'
    cases e : Nat.beq t t' with
    | true => rw [e] at h'; cases h'; rw [← Nat.eq_of_beq_eq_true e, h, hb]
    | false => rw [e] at h'; exact h'
  by_cases hp : p
  · exact ht hp a w (key true (decide_eq_true hp)) hw
  · exact hf hp a w (key false (decide_eq_false hp)) hw
theorem bN {t : Nat} {b : Bool} (h : look l t = some (.bool b)) (ht : b = true → WL x ((t, .bool true) :: l) L S ops rest Q) (hf : b = false → WL x ((t, .bool false) :: l) L S ops rest Q) : WL x l L S ops rest Q := fun a w ha hw => by
  have key : ∀ b', b = b' → Kn x.N x.ds ((t, .bool b') :: l) a := fun b' hb => ha.mono fun t' v' h' => by
    simp only [look] at h'
    cases e : Nat.beq t t' with
    | true => rw [e] at h'; cases h'; rw [← Nat.eq_of_beq_eq_true e, h, hb]
    | false => rw [e] at h'; exact h'
  cases b with
  | true => exact ht rfl a w (key true rfl) hw
  | false => exact hf rfl a w (key false rfl) hw
/-- A slot's value in other words. -/
theorem eo {t : Nat} {v : Value} (v' : Value) (h : look l t = some v) (e : v = v') (k : WL x ((t, v') :: l) L S ops rest Q) : WL x l L S ops rest Q := fun a w ha hw =>
  k a w (ha.mono fun t' u h' => by
    simp only [look] at h'
    cases e2 : Nat.beq t t' with
    | true => rw [e2] at h'; cases h'; rw [← Nat.eq_of_beq_eq_true e2, h, e]
    | false => rw [e2] at h'; exact h') hw
theorem wl_at {t : Nat} {p : Prop} [Decidable p] (h : look l t = some (.bool (decide p))) (hp : p) (k : WL x ((t, .bool true) :: l) L S ops rest Q) : WL x l L S ops rest Q := eo (.bool true) h (by rw [decide_eq_true hp]) k
theorem wl_af {t : Nat} {p : Prop} [Decidable p] (h : look l t = some (.bool (decide p))) (hp : ¬ p) (k : WL x ((t, .bool false) :: l) L S ops rest Q) : WL x l L S ops rest Q := eo (.bool false) h (by rw [decide_eq_false hp]) k

theorem iX {o : Oper} (hg : o.guard = none) (hd : ∀ c, o.op ≠ .defer c)
    (h : ∀ a w, Kn x.N x.ds l a → Hp x.ok0 x.w0 L S w → o.uponIn (fw x.ro) 0 x.P a (wpListIn (fw x.ro) 0 x.P ops Q rest) Q ((execOp a.eval o).run x.P w)) : WL x l L S ops (o :: rest) Q := fun a w ha hw => by
  unfold wpListIn
  rw [if_pos (by simp [Region.wanted, hg])]
  refine ⟨fun _ _ => trivial, ?_⟩
  have e : Oper.semAt (fw x.ro).round a.eval o = execOp a.eval o := by
    show Oper.semAt x.ro a.eval o = _
    cases x.ro with
    | none => rfl
    | some n => exact Oper.semAt_some n _ o hd
  rw [e]
  exact h a w ha hw
/-- An operation that yields a value. -/
theorem wl_val {o : Oper} {d : Nat} {v : Value} {L' S' : List Ch} (hg : o.guard = none) (hdst : o.dst = some d) (hd : ∀ c, o.op ≠ .defer c) (hN : Nat.blt d x.N = true)
    (h : ∀ a w, Kn x.N x.ds l a → Hp x.ok0 x.w0 L S w → ∃ w', (execOp a.eval o).run x.P w = .ok (.value v) w' ∧ Hp x.ok0 x.w0 L' S' w')
    (k : WL x ((d, v) :: l) L' S' ops rest Q) : WL x l L S ops (o :: rest) Q :=
  iX hg hd fun a w ha hw => by
    obtain ⟨w', e, hw'⟩ := h a w ha hw
    rw [e]
    show wpListIn _ _ _ _ _ _ (a.put o.dst v) w'
    rw [hdst]
    exact k _ _ (ha.put (Nat.le_of_ble_eq_true hN) v) hw'
/-- The same, the value hanging on the world (a new block's number). -/
theorem ig {o : Oper} {d : Nat} {α : Type} (V : α → Value) (L' S' : α → List Ch) (hg : o.guard = none) (hdst : o.dst = some d) (hd : ∀ c, o.op ≠ .defer c) (hN : Nat.blt d x.N = true)
    (h : ∀ a w, Kn x.N x.ds l a → Hp x.ok0 x.w0 L S w → ∃ i w', (execOp a.eval o).run x.P w = .ok (.value (V i)) w' ∧ Hp x.ok0 x.w0 (L' i) (S' i) w')
    (k : ∀ i, WL x ((d, V i) :: l) (L' i) (S' i) ops rest Q) : WL x l L S ops (o :: rest) Q :=
  iX hg hd fun a w ha hw => by
    obtain ⟨i, w', e, hw'⟩ := h a w ha hw
    rw [e]
    show wpListIn _ _ _ _ _ _ (a.put o.dst (V i)) w'
    rw [hdst]
    exact k i _ _ (ha.put (Nat.le_of_ble_eq_true hN) _) hw'
/-- An operation that yields nothing. -/
theorem wl_unit {o : Oper} {L' S' : List Ch} (hg : o.guard = none) (hdst : o.dst = none) (hd : ∀ c, o.op ≠ .defer c)
    (h : ∀ a w, Kn x.N x.ds l a → Hp x.ok0 x.w0 L S w → ∃ w', (execOp a.eval o).run x.P w = .ok .skip w' ∧ Hp x.ok0 x.w0 L' S' w')
    (k : WL x l L' S' ops rest Q) : WL x l L S ops (o :: rest) Q :=
  iX hg hd fun a w ha hw => by
    obtain ⟨w', e, hw'⟩ := h a w ha hw
    rw [e]
    show wpListIn _ _ _ _ _ _ (a.put o.dst undef) w'
    rw [hdst]
    exact k _ _ (ha.skip _) hw'
/-- Guards. -/
theorem au {dst : Option Nat} {op : Op} {ty : TypeId} {pos : String} {af : Array Edge} {j t : Nat} {want : Bool} (hj : (ops[j]?).bind (·.dst) = some t) (ht : look l t = some (.bool want))
    (k : WL x l L S ops (⟨dst, op, ty, pos, af, none⟩ :: rest) Q) : WL x l L S ops (⟨dst, op, ty, pos, af, some (j, want)⟩ :: rest) Q := fun a w ha hw => by
  have hy : yielded ops a.tmps j = some want := by simp [yielded, hj, ha.kn t _ ht]
  have := k a w ha hw
  unfold wpListIn at this ⊢
  have hw1 : Region.wanted ⟨dst, op, ty, pos, af, none⟩ (yielded ops a.tmps) = true := rfl
  have hw2 : Region.wanted ⟨dst, op, ty, pos, af, some (j, want)⟩ (yielded ops a.tmps) = true := by simp [Region.wanted, hy]
  rw [if_pos hw1] at this
  rw [if_pos hw2]
  exact this
theorem ar {d : Nat} {op : Op} {ty : TypeId} {pos : String} {af : Array Edge} {j t : Nat} {want b : Bool} (hj : (ops[j]?).bind (·.dst) = some t) (ht : look l t = some (.bool b)) (hb : b = !want) (hN : Nat.blt d x.N = true)
    (k : WL x ((d, undef) :: l) L S ops rest Q) : WL x l L S ops (⟨some d, op, ty, pos, af, some (j, want)⟩ :: rest) Q := fun a w ha hw => by
  have hy : yielded ops a.tmps j = some b := by simp [yielded, hj, ha.kn t _ ht]
  unfold wpListIn
  have hw2 : Region.wanted ⟨some d, op, ty, pos, af, some (j, want)⟩ (yielded ops a.tmps) = false := by simp [Region.wanted, hy, hb]
  rw [if_neg (by rw [hw2]; simp)]
  exact ⟨fun _ _ => trivial, k _ _ (ha.put (Nat.le_of_ble_eq_true hN) _) hw⟩
/-- .. on what has itself been left out. -/
theorem cT {d : Nat} {op : Op} {ty : TypeId} {pos : String} {af : Array Edge} {j t : Nat} {want : Bool} (hj : (ops[j]?).bind (·.dst) = some t) (ht : look l t = some undef) (hN : Nat.blt d x.N = true)
    (k : WL x ((d, undef) :: l) L S ops rest Q) : WL x l L S ops (⟨some d, op, ty, pos, af, some (j, want)⟩ :: rest) Q := fun a w ha hw => by
  have hy : yielded ops a.tmps j = none := by simp [yielded, hj, ha.kn t _ ht, undef]
  unfold wpListIn
  have hw2 : Region.wanted ⟨some d, op, ty, pos, af, some (j, want)⟩ (yielded ops a.tmps) = false := by simp [Region.wanted, hy]
  rw [if_neg (by rw [hw2]; simp)]
  exact ⟨fun _ _ => trivial, k _ _ (ha.put (Nat.le_of_ble_eq_true hN) _) hw⟩
end rules
end Go.Proofs.YtnpdgmoeoidppaaGreat

/- One rule for each kind of operation. -/
namespace Go.Proofs.YtnpdgmoeoidppaaGreat
open Go.RowKit Go.Shelf

/-- What the walk wants of a type: is it laid out in several cells; its zero; how many cells, bytes. -/
structure TyI (P : Program) (t : TypeId) (agg : Bool) (sz bytes : Nat) (z : Value) : Prop where
  ag : ∀ w, (isAgg t).run P w = .ok agg w
  inf : ∃ i, P.info? t = some i ∧ i.zero = some z ∧ i.size = sz ∧ i.bytes = bytes
theorem TyI.mk' {P : Program} {t : TypeId} {agg : Bool} {sz bytes : Nat} {z : Value} (h : (P.info? t).map (fun i => (i.zero, i.size, i.bytes)) = some (some z, sz, bytes)) (ha : ∀ w, (isAgg t).run P w = .ok agg w) : TyI P t agg sz bytes z :=
  ⟨ha, info_parts h⟩
theorem TyI.zero {P : Program} {t : TypeId} {agg : Bool} {sz bytes : Nat} {z : Value} (h : TyI P t agg sz bytes z) (w : World) : (zeroValue t).run P w = .ok z w := by
  obtain ⟨i, h1, h2, h3, h4⟩ := h.inf
  simp [zeroValue, typeInfo, h1, h2]
theorem TyI.size {P : Program} {t : TypeId} {agg : Bool} {sz bytes : Nat} {z : Value} (h : TyI P t agg sz bytes z) (w : World) : (sizeOf t).run P w = .ok sz w := by
  obtain ⟨i, h1, h2, h3, h4⟩ := h.inf
  simp [sizeOf, typeInfo, h1, h3]
/-- Where a field lies. -/
def FA (P : Program) (s : TypeId) (f k : Nat) : Prop := ∀ b o w, (Instr.fieldAt s (.pointer (some ⟨b, o, none⟩)) f).run P w = .ok (.pointer (some ⟨b, o + k, none⟩)) w

def Op.isDefer : Op → Bool
  | .defer _ => true
  | _ => false
section ops
variable {x : Cx} {l : Fr} {L S : List Ch} {Q : Exit → Act → World → Prop} {ops : Array Oper} {rest : List Oper} {d : Nat} {ty : TypeId} {pos : String} {af : Array Edge} {gd : Option (Nat × Bool)}

/-- In every frame, every heap known so the operation yields v, and turns nothing. -/
def Yv (x : Cx) (l : Fr) (L S : List Ch) (o : Oper) (v : Value) : Prop := ∀ a w, Kn x.N x.ds l a → Hp x.ok0 x.w0 L S w → (execOp a.eval o).run x.P w = .ok (.value v) w
theorem Yv.eq {o : Oper} {v v' : Value} (h : Yv x l L S o v) (e : v = v') : Yv x l L S o v' := e ▸ h
theorem aq {op : Op} {v : Value} (h : Yv x l L S ⟨some d, op, ty, pos, af, none⟩ v) (hd : Op.isDefer op = false) (hN : Nat.blt d x.N = true) (k : WL x ((d, v) :: l) L S ops rest Q) : WL x l L S ops (⟨some d, op, ty, pos, af, none⟩ :: rest) Q :=
  wl_val rfl rfl (fun c e => by rw [show op = _ from e] at hd; cases hd) hN (fun a w ha hw => ⟨w, h a w ha hw, hw⟩) k

theorem am {y : Operand} {v : Value} (hy : ev l y = some v) :
    Yv x l L S ⟨some d, .move y, ty, pos, af, gd⟩ (v) := fun a w ha hw => by simp [execOp, ha.ev hy]
theorem ai {y : Operand} {v : Value} (hy : ev l y = some v) :
    Yv x l L S ⟨some d, .assign y, ty, pos, af, gd⟩ (v) := fun a w ha hw => by simp [execOp, ha.ev hy]
theorem aH {c y z : Operand} {v : Value} (hc : ev l c = some (.bool true)) (hy : ev l y = some v) :
    Yv x l L S ⟨some d, .pick c y z, ty, pos, af, gd⟩ (v) := fun a w ha hw => by simp [execOp, ha.ev hy, ha.ev hc, asBool]
theorem aF {c y z : Operand} {v : Value} (hc : ev l c = some (.bool false)) (hz : ev l z = some v) :
    Yv x l L S ⟨some d, .pick c y z, ty, pos, af, gd⟩ (v) := fun a w ha hw => by simp [execOp, ha.ev hz, ha.ev hc, asBool]
theorem cL {e : TypeId} {y : Operand} {v : Value} {cs : List Value} (hy : ev l y = some v) (hcs : v.cells = cs.toArray) (hN : Nat.blt d x.N = true)
    (k : ∀ b, WL x ((d, .pointer (some ⟨b, 0, none⟩)) :: l) (Ch.row b cs e :: L) S ops rest Q) : WL x l L S ops (⟨some d, .box e y, ty, pos, af, none⟩ :: rest) Q :=
  ig (fun b => .pointer (some ⟨b, 0, none⟩)) (fun b => Ch.row b cs e :: L) (fun _ => S) rfl rfl (fun _ => nofun) hN
    (fun a w ha hw => ⟨w.heap.size, w.alloc (.cells cs.toArray e), by simp [execOp, ha.ev hy, Instr.box, newVar, newRow, hcs], hw.alloc _⟩) k
theorem bH {e : TypeId} {agg : Bool} {sz bytes : Nat} {z : Value} {cs : List Value} (ht : TyI x.P e agg sz bytes z) (hcs : z.cells = cs.toArray) (hN : Nat.blt d x.N = true)
    (k : ∀ b, WL x ((d, .pointer (some ⟨b, 0, none⟩)) :: l) (Ch.row b cs e :: L) S ops rest Q) : WL x l L S ops (⟨some d, .alloc e, ty, pos, af, none⟩ :: rest) Q :=
  ig (fun b => .pointer (some ⟨b, 0, none⟩)) (fun b => Ch.row b cs e :: L) (fun _ => S) rfl rfl (fun _ => nofun) hN
    (fun a w ha hw => ⟨w.heap.size, w.alloc (.cells cs.toArray e), by simp [execOp, Instr.alloc, newVar, newRow, hcs, ht.zero], hw.alloc _⟩) k
theorem aB {s : TypeId} {y : Operand} {f b o n : Nat} (hf : FA x.P s f n) (hy : ev l y = some (.pointer (some ⟨b, o, none⟩))) :
    Yv x l L S ⟨some d, .fieldAddr s y f, ty, pos, af, gd⟩ (.pointer (some ⟨b, o + n, none⟩)) := fun a w ha hw => by simp [execOp, ha.ev hy, hf b o w]
theorem cR {y : Operand} {p : Addr} (hy : ev l y = some (.pointer (some p))) :
    Yv x l L S ⟨some d, .nilCheck y, ty, pos, af, gd⟩ (.pointer (some p)) := fun a w ha hw => by simp [execOp, ha.ev hy]
/-! Cells. -/
theorem jE {w : World} {b : Nat} {cs : List Value} {T : TypeId} (h : (Ch.row b cs T).P w) (o : Nat) : w.cell? ⟨b, o, none⟩ = cs[o]? := by
  have h' : w.heap[b]? = some (.cells cs.toArray T (0, 0)) := h
  simp [World.cell?, h']
theorem run_load1 {P : Program} {t : TypeId} {sz bytes : Nat} {z v : Value} (ht : TyI P t false sz bytes z) {w : World} {ad : Addr} (h : w.cell? ad = some v) : (loadVar t ad).run P w = .ok v w := by
  simp [loadVar, ht.ag, h]
theorem run_loadN {P : Program} {t : TypeId} {sz bytes : Nat} {z : Value} (ht : TyI P t true sz bytes z) {w : World} {b o : Nat} {vs : List Value} (hl : vs.length = sz) (h : ∀ i v, vs[i]? = some v → w.cell? ⟨b, o + i, none⟩ = some v) :
    (loadVar t ⟨b, o, none⟩).run P w = .ok (.agg vs.toArray) w := by
  have := run_loadCells_list (P := P) w ⟨b, o, none⟩ vs (fun j v hv => by
    have := h j v hv
    unfold Addr.add
    by_cases e : j = 0
    · subst e; simpa using this
    · simpa [e] using this)
  rw [hl] at this
  simp [loadVar, ht.ag, ht.size, this]
/-- A load of one cell, of whatever the heap is known to hold there. -/
theorem y_load {t : TypeId} {sz bytes : Nat} {z : Value} {y : Operand} {ad : Addr} {v : Value} (ht : TyI x.P t false sz bytes z) (hy : ev l y = some (.pointer (some ad)))
    (h : ∀ w, Hp x.ok0 x.w0 L S w → w.cell? ad = some v) :
    Yv x l L S ⟨some d, .load t y, ty, pos, af, gd⟩ (v) := fun a w ha hw => by simp [execOp, ha.ev hy, Instr.loadAt, Instr.sureAddr, run_load1 ht (h w hw)]
theorem y_loads {t : TypeId} {sz bytes : Nat} {z : Value} {y : Operand} {b o : Nat} {vs : List Value} (ht : TyI x.P t true sz bytes z) (hy : ev l y = some (.pointer (some ⟨b, o, none⟩))) (hl : vs.length = sz)
    (h : ∀ w, Hp x.ok0 x.w0 L S w → ∀ i v, vs[i]? = some v → w.cell? ⟨b, o + i, none⟩ = some v) :
    Yv x l L S ⟨some d, .load t y, ty, pos, af, gd⟩ (.agg vs.toArray) := fun a w ha hw => by simp [execOp, ha.ev hy, Instr.loadAt, Instr.sureAddr, run_loadN ht hl (h w hw)]
/-- .. of a chunk of one's own. -/
theorem aC {t T : TypeId} {sz bytes : Nat} {z : Value} {y : Operand} {b o : Nat} {cs : List Value} {v : Value} (i : Nat) (ht : TyI x.P t false sz bytes z) (hy : ev l y = some (.pointer (some ⟨b, o, none⟩)))
    (hi : L[i]? = some (Ch.row b cs T)) (hv : cs[o]? = some v) :
    Yv x l L S ⟨some d, .load t y, ty, pos, af, gd⟩ (v) :=
  y_load ht hy (fun w hw => by rw [jE (hw.own _ (List.mem_of_getElem? hi)) o]; exact hv)
theorem bu {t T : TypeId} {sz bytes : Nat} {z : Value} {y : Operand} {b o : Nat} {cs vs : List Value} (i : Nat) (ht : TyI x.P t true sz bytes z) (hy : ev l y = some (.pointer (some ⟨b, o, none⟩)))
    (hi : L[i]? = some (Ch.row b cs T)) (hv : (cs.drop o).take sz = vs) (hl : vs.length = sz) :
    Yv x l L S ⟨some d, .load t y, ty, pos, af, gd⟩ (.agg vs.toArray) :=
  y_loads ht hy hl (fun w hw j v hj => by
    rw [jE (hw.own _ (List.mem_of_getElem? hi)) (o + j)]
    rw [← hv] at hj
    have hlt : j < sz := by have := (List.getElem?_eq_some_iff.1 hj).1; simp at this; omega
    simpa [List.getElem?_take, hlt] using hj)
theorem store_row {P : Program} {w : World} {b o : Nat} {cs vs : List Value} {T : TypeId} (h : (Ch.row b cs T).P w) (hl : o + vs.length ≤ cs.length) (hone : ∀ v ∈ vs, v.oneCell' = true) :
    ∃ w', (storeCells ⟨b, o, none⟩ vs).run P w = .ok () w' ∧ (Ch.row b (cs.take o ++ vs ++ cs.drop (o + vs.length)) T).P w' ∧ Upd (fun k => k = b) w w' := by
  have h' : w.heap[b]? = some (.cells cs.toArray T (0, 0)) := h
  have e := run_storeCells_at (P := P) b o T vs 0 cs.toArray w h' (by simpa using hl) hone
  simp only [Nat.add_zero] at e
  refine ⟨_, e, ?_, ?_⟩
  · obtain ⟨hlt, hk⟩ := Array.getElem?_eq_some_iff.1 h'
    show (w.heap.modify b _)[b]? = some (.cells (cs.take o ++ vs ++ cs.drop (o + vs.length)).toArray T (0, 0))
    rw [Array.getElem?_eq_getElem (by rw [Array.size_modify]; exact hlt), Array.getElem_modify_self, hk]
  · refine ⟨rfl, rfl, rfl, ?_, fun k hk hn => ?_, Nat.le_refl _⟩
    · show w.heap.size ≤ (w.heap.modify b _).size
      rw [Array.size_modify]; exact Nat.le_refl _
    · show (w.heap.modify b _)[k]? = _
      rw [Array.getElem?_modify, if_neg (fun e => hn e.symm)]
/-- A store into a row of one's own. -/
theorem aW {t T : TypeId} {agg : Bool} {sz bytes : Nat} {z : Value} {y u : Operand} {b o : Nat} {cs vs cs' : List Value} {v : Value} {L' : List Ch} {i : Nat} (ht : TyI x.P t agg sz bytes z) (hy : ev l y = some (.pointer (some ⟨b, o, none⟩))) (hu : ev l u = some v) (hvs : v.cells = vs.toArray)
    (hi : SetAt L i (Ch.row b cs T) (Ch.row b cs' T) L') (hl : vs.length = sz) (hlen : Nat.ble (o + sz) cs.length = true) (hcs : cs.take o ++ vs ++ cs.drop (o + vs.length) = cs') (hone : vs.all Value.oneCell' = true)
    (k : WL x l L' S ops rest Q) : WL x l L S ops (⟨none, .store t y u, ty, pos, af, none⟩ :: rest) Q :=
  wl_unit rfl rfl (fun _ => nofun) (fun a w ha hw => by
    obtain ⟨w', e, hp, hupd⟩ := store_row (P := x.P) (hw.own _ hi.mem) (vs := vs) (o := o) (by rw [hl]; exact Nat.le_of_ble_eq_true hlen) (List.all_eq_true.1 hone)
    rw [hcs] at hp
    refine ⟨w', ?_, hw.upd hi hupd hp (fun b hb => .inl hb)⟩
    have hs : v.cells.size = sz := by rw [hvs]; simpa using hl
    simp [execOp, ha.ev hy, ha.ev hu, Instr.storeAt, Instr.sureAddr, storeVar, ht.size, hs]
    rw [hvs, List.toList_toArray, e]; rfl) k

/-! Numbers. -/
theorem ij {n : Int} (h1 : 0 ≤ n) (h2 : n ≤ 255) : IntKind.u8.wrap n = n := IntWalk.u8_in _ ⟨h1, h2⟩
theorem wrap_u64 {n : Int} (h1 : 0 ≤ n) (h2 : n ≤ 18446744073709551615) : IntKind.u64.wrap n = n := IntWalk.u64_in _ ⟨h1, h2⟩
theorem jA {n : Int} (h1 : -9223372036854775808 ≤ n) (h2 : n ≤ 9223372036854775807) : IntKind.i64.wrap n = n := IntWalk.i64_in _ ⟨h1, h2⟩
theorem in64 {n : Int} (h1 : -9223372036854775808 ≤ n) (h2 : n ≤ 9223372036854775807) : IntKind.i64.wrap n = n := IntWalk.i64_in _ ⟨h1, h2⟩
theorem y_add {y z : Operand} {a b : Int} {k0 : IntKind} {yt zt : TypeId} (hy : ev l y = some (.int k0 a)) (hz : ev l z = some (.int k0 b)) :
    Yv x l L S ⟨some d, .binOp .add yt y z zt, ty, pos, af, gd⟩ (.int k0 (k0.wrap (a + b))) := fun a w ha hw => by simp [execOp, ha.ev hy, ha.ev hz, eqGuard, binOp, Op.intArith]
theorem y_sub {y z : Operand} {a b : Int} {k0 : IntKind} {yt zt : TypeId} (hy : ev l y = some (.int k0 a)) (hz : ev l z = some (.int k0 b)) :
    Yv x l L S ⟨some d, .binOp .sub yt y z zt, ty, pos, af, gd⟩ (.int k0 (k0.wrap (a - b))) := fun a w ha hw => by simp [execOp, ha.ev hy, ha.ev hz, eqGuard, binOp, Op.intArith]
/-- .. of an int, within bounds. -/
theorem br {y z : Operand} {a b : Int} {yt zt : TypeId} (hy : ev l y = some (.int .i64 a)) (hz : ev l z = some (.int .i64 b)) (h1 : -9223372036854775808 ≤ a + b) (h2 : a + b ≤ 9223372036854775807) :
    Yv x l L S ⟨some d, .binOp .add yt y z zt, ty, pos, af, gd⟩ (.int .i64 (a + b)) := (y_add hy hz).eq (by rw [in64 h1 h2])
theorem fd {y z : Operand} {a b : Int} {yt zt : TypeId} (hy : ev l y = some (.int .i64 a)) (hz : ev l z = some (.int .i64 b)) (h1 : -9223372036854775808 ≤ a - b) (h2 : a - b ≤ 9223372036854775807) :
    Yv x l L S ⟨some d, .binOp .sub yt y z zt, ty, pos, af, gd⟩ (.int .i64 (a - b)) := (y_sub hy hz).eq (by rw [in64 h1 h2])
theorem y_shr {y z : Operand} {a b : Int} {k0 k1 : IntKind} {yt zt : TypeId} (hy : ev l y = some (.int k0 a)) (hz : ev l z = some (.int k1 b)) (hb : 0 ≤ b) :
    Yv x l L S ⟨some d, .binOp .shr yt y z zt, ty, pos, af, gd⟩ (.int k0 (a.fdiv (2 ^ min b.toNat k0.bits))) := fun a w ha hw => by
  have : ¬ b < 0 := by omega
  simp [execOp, ha.ev hy, ha.ev hz, eqGuard, binOp, Op.shift, this]
section cmp
variable {y z : Operand} {a b : Int} {k0 : IntKind} {yt zt : TypeId} (hy : ev l y = some (.int k0 a)) (hz : ev l z = some (.int k0 b))
include hy hz
theorem bW  :
    Yv x l L S ⟨some d, .binOp .lss yt y z zt, ty, pos, af, gd⟩ (.bool (decide (a < b))) := fun a w ha hw => by simp [execOp, ha.ev hy, ha.ev hz, eqGuard, binOp, Op.intCmp]
theorem ff  :
    Yv x l L S ⟨some d, .binOp .leq yt y z zt, ty, pos, af, gd⟩ (.bool (decide (a ≤ b))) := fun a w ha hw => by simp [execOp, ha.ev hy, ha.ev hz, eqGuard, binOp, Op.intCmp]
theorem dB  :
    Yv x l L S ⟨some d, .binOp .gtr yt y z zt, ty, pos, af, gd⟩ (.bool (decide (b < a))) := fun a w ha hw => by simp [execOp, ha.ev hy, ha.ev hz, eqGuard, binOp, Op.intCmp]
theorem gD  :
    Yv x l L S ⟨some d, .binOp .geq yt y z zt, ty, pos, af, gd⟩ (.bool (decide (b ≤ a))) := fun a w ha hw => by simp [execOp, ha.ev hy, ha.ev hz, eqGuard, binOp, Op.intCmp]
theorem cY  :
    Yv x l L S ⟨some d, .binOp .eql yt y z zt, ty, pos, af, gd⟩ (.bool (decide (a = b))) := fun a w ha hw => by simp [execOp, ha.ev hy, ha.ev hz, eqGuard, binOp, Op.intCmp]; rfl
theorem cO  :
    Yv x l L S ⟨some d, .binOp .neq yt y z zt, ty, pos, af, gd⟩ (.bool (decide (a ≠ b))) := fun a w ha hw => by simp [execOp, ha.ev hy, ha.ev hz, eqGuard, binOp, Op.intCmp]; rfl
end cmp
abbrev a6 := List UInt8
abbrev ls (s : ByteArray) : a6 := s.data.toList
abbrev ba (l : a6) : ByteArray := ⟨⟨l⟩⟩
theorem f9 (l : a6) : (ba l).toList = l := by simp [ByteArray.toList_eq]
theorem eK {y z : Operand} {s t : a6} {yt zt : TypeId} (hy : ev l y = some (.string (ba s))) (hz : ev l z = some (.string (ba t))) :
    Yv x l L S ⟨some d, .binOp .eql yt y z zt, ty, pos, af, gd⟩ (.bool (decide (s = t))) := fun a w ha hw => by
  have : decide (s = t) = ((ba s).toList == (ba t).toList) := by rw [f9, f9, Bool.eq_iff_iff]; simp
  rw [this]; simp [execOp, ha.ev hy, ha.ev hz, eqGuard, binOp, Op.stringOp]
theorem ju {y z : Operand} {s t : a6} {yt zt : TypeId} (hy : ev l y = some (.string (ba s))) (hz : ev l z = some (.string (ba t))) :
    Yv x l L S ⟨some d, .binOp .neq yt y z zt, ty, pos, af, gd⟩ (.bool (decide (s ≠ t))) := fun a w ha hw => by
  have : decide (s ≠ t) = !((ba s).toList == (ba t).toList) := by rw [f9, f9, Bool.eq_iff_iff]; simp
  rw [this]; simp [execOp, ha.ev hy, ha.ev hz, eqGuard, binOp, Op.stringOp]
theorem ba_append (s t : a6) : ba s ++ ba t = ba (s ++ t) := by
  apply ByteArray.ext; simp [ByteArray.data_append]
theorem y_adds {y z : Operand} {s t : a6} {yt zt : TypeId} (hy : ev l y = some (.string (ba s))) (hz : ev l z = some (.string (ba t))) (hs : s.length + t.length ≤ 9223372036854775807) :
    Yv x l L S ⟨some d, .binOp .add yt y z zt, ty, pos, af, gd⟩ (.string (ba (s ++ t))) := fun a w ha hw => by
  have e1 : (ba s).size = s.length := rfl
  have e2 : (ba t).size = t.length := rfl
  have h0 : ¬ (((ba s).size + (ba t).size : Nat) : Int) > IntKind.i64.max := by
    have : IntKind.i64.max = 9223372036854775807 := by decide
    omega
  simp only [execOp, ha.ev hy, ha.ev hz, eqGuard, binOp, Op.stringOp]
  rw [if_neg h0, ← ba_append]
  simp
theorem y_eqlb {y z : Operand} {s t : Bool} {yt zt : TypeId} (hu : x.P.underlying yt = some .bool) (hy : ev l y = some (.bool s)) (hz : ev l z = some (.bool t)) :
    Yv x l L S ⟨some d, .binOp .eql yt y z zt, ty, pos, af, gd⟩ (.bool (decide (s = t))) := fun a w ha hw => by simp only [execOp, ha.ev hy, ha.ev hz]; simp [eqGuard, binOp, run_equal_bool _ _ _ _ hu]; cases s <;> cases t <;> rfl
theorem bS {y : Operand} {b : Bool} {yt : TypeId} (hy : ev l y = some (.bool b)) :
    Yv x l L S ⟨some d, .unOp .not yt y, ty, pos, af, gd⟩ (.bool (!b)) := fun a w ha hw => by simp [execOp, ha.ev hy, Op.unary]
theorem y_convii {y : Operand} {n : Int} {k1 k2 : IntKind} {t1 t2 : TypeId} (h1 : x.P.underlying t1 = some (.int k1)) (h2 : x.P.underlying t2 = some (.int k2)) (hy : ev l y = some (.int k1 n)) :
    Yv x l L S ⟨some d, .convert t1 t2 y, ty, pos, af, gd⟩ (.int k2 (k2.wrap n)) := fun a w ha hw => by simp [execOp, ha.ev hy, convert, run_underlying h1, run_underlying h2, Conv.intToInt]
theorem j6 {y : Operand} {n : Int} {k1 k2 : IntKind} {t1 t2 : TypeId} (h1 : x.P.underlying t1 = some (.int k1)) (h2 : x.P.underlying t2 = some (.int k2)) (hy : ev l y = some (.int k1 n)) (hwr : k2.wrap n = n) :
    Yv x l L S ⟨some d, .convert t1 t2 y, ty, pos, af, gd⟩ (.int k2 n) := (y_convii h1 h2 hy).eq (by rw [hwr])
def evs (l : Fr) : List Operand → Option (List Value)
  | [] => some []
  | y :: r => match ev l y with
    | some v => match evs l r with
      | some vs => some (v :: vs)
      | none => none
    | none => none
theorem Kn.evs {N : Nat} {ds : List Deferred} {l : Fr} {a : Act} (h : Kn N ds l a) : ∀ {ys : List Operand} {vs : List Value}, evs l ys = some vs → ys.map a.eval = vs
  | [], vs, e => by cases e; rfl
  | y :: r, vs, e => by
    simp only [Go.Proofs.YtnpdgmoeoidppaaGreat.evs] at e
    split at e
    · rename_i v hv
      split at e
      · rename_i us hus
        cases e
        rw [List.map_cons, h.ev hv, h.evs hus]
      · cases e
    · cases e
theorem jn {fn : Fn} {fi ca : List Operand} {vf vc : List Value} (hf : evs l fi = some vf) (hc : evs l ca = some vc) :
    Yv x l L S ⟨some d, .makeFunc fn fi.toArray ca.toArray, ty, pos, af, gd⟩ (.func fn vf.toArray vc.toArray) := fun a w ha hw => by simp [execOp, Instr.makeFunc, ha.evs hf, ha.evs hc]
theorem bn {y : Operand} {vs : List Value} {i : Nat} {v : Value} (hy : ev l y = some (.tuple vs.toArray)) (hi : vs[i]? = some v) :
    Yv x l L S ⟨some d, .extract y i, ty, pos, af, gd⟩ (v) := fun a w ha hw => by simp [execOp, ha.ev hy, Instr.extract, hi]
/-! Strings, slices. -/
/-- The octet at a place. -/
def bt (s : a6) (i : Nat) : Nat := (s.getD i 0).toNat
theorem bt_lt (s : a6) (i : Nat) : bt s i < 256 := UInt8.toNat_lt _
theorem len_pos {s : a6} (h : ¬ s = []) : 0 < s.length := List.length_pos_iff.2 h
theorem dp {y : Operand} {s : a6} {t : TypeId} (h1 : x.P.underlying t = some .string) (hy : ev l y = some (.string (ba s))) :
    Yv x l L S ⟨some d, .call { callee := .builtin .len, args := #[y], argTypes := #[t] }, ty, pos, af, gd⟩ (.int .i64 s.length) := fun a w ha hw => by
  have e1 : (ba s).size = s.length := rfl
  simp [execOp, resolve, invoke, builtin, Builtin.len_, run_underlying h1, ha.ev hy, goInt, e1]
theorem bg {y : Operand} {A : Option Addr} {n c : Nat} {t e : TypeId} (h1 : x.P.underlying t = some (.slice e)) (hy : ev l y = some (.slice A n c)) :
    Yv x l L S ⟨some d, .call { callee := .builtin .len, args := #[y], argTypes := #[t] }, ty, pos, af, gd⟩ (.int .i64 n) := fun a w ha hw => by simp [execOp, resolve, invoke, builtin, Builtin.len_, run_underlying h1, ha.ev hy, goInt]
theorem fA {y z : Operand} {s : a6} {i : Int} {k : Nat} {k0 : IntKind} {t : TypeId} (h1 : x.P.underlying t = some .string) (hy : ev l y = some (.string (ba s))) (hz : ev l z = some (.int k0 i)) (hk : i = (k : Int)) (hlt : k < s.length) :
    Yv x l L S ⟨some d, .index t y z, ty, pos, af, gd⟩ (.int .u8 (bt s k)) := fun a w ha hw => by
  subst hk
  have hlt' : k < (ba s).size := hlt
  have e : (ba s)[k]? = some (s[k]) := by simp [hlt']; rfl
  have e2 : bt s k = (s[k]).toNat := by
    unfold bt
    rw [List.getD_eq_getElem?_getD, List.getElem?_eq_getElem hlt]; rfl
  simp [execOp, ha.ev hy, ha.ev hz, Instr.index, asIntOf, run_underlying h1, e, e2]
theorem jo (s : a6) (i j : Nat) : (ba s).extract i j = ba ((s.take j).drop i) := by
  apply ByteArray.ext
  simp [ByteArray.data_extract, List.drop_take]
theorem run_bounds_b {P : Program} {w : World} {isSlice : Bool} {len cap : Nat} {k1 k2 : IntKind} {i j : Int} (h0 : 0 ≤ i) (h1 : i ≤ j) (h2 : j ≤ cap) :
    (Instr.sliceBounds isSlice len cap (some (.int k1 i)) (some (.int k2 j)) none).run P w = .ok (i.toNat, j.toNat, cap) w := by
  have h3 : 0 ≤ j := by omega
  simp [Instr.sliceBounds, Instr.sliceBound, asIntOf, h0, h2, h3]
  omega
theorem run_bounds_lo {P : Program} {w : World} {isSlice : Bool} {len cap : Nat} {k1 : IntKind} {i : Int} (h0 : 0 ≤ i) (h1 : i ≤ len) :
    (Instr.sliceBounds isSlice len cap (some (.int k1 i)) none none).run P w = .ok (i.toNat, len, cap) w := by
  simp [Instr.sliceBounds, Instr.sliceBound, asIntOf, h0, h1]
theorem run_bounds_hi {P : Program} {w : World} {isSlice : Bool} {len cap : Nat} {k1 : IntKind} {j : Int} (h0 : 0 ≤ j) (h1 : j ≤ cap) :
    (Instr.sliceBounds isSlice len cap none (some (.int k1 j)) none).run P w = .ok (0, j.toNat, cap) w := by
  simp [Instr.sliceBounds, Instr.sliceBound, asIntOf, h0, h1]
theorem y_slices {y i1 j1 : Operand} {s : a6} {i j : Int} {m n : Nat} {k1 k2 : IntKind} {t : TypeId} (h1 : x.P.underlying t = some .string) (hy : ev l y = some (.string (ba s))) (hi : ev l i1 = some (.int k1 i)) (hj : ev l j1 = some (.int k2 j))
    (hm : i = (m : Int)) (hn : j = (n : Int)) (b1 : m ≤ n) (b2 : n ≤ s.length) :
    Yv x l L S ⟨some d, .slice t y (some i1) (some j1) none, ty, pos, af, gd⟩ (.string (ba ((s.take n).drop m))) := fun a w ha hw => by
  subst hm hn
  have e := run_bounds_b (P := x.P) (w := w) (isSlice := false) (len := s.length) (cap := s.length) (k1 := k1) (k2 := k2) (i := m) (j := n) (by omega) (by omega) (by omega)
  have e1 : (ba s).size = s.length := rfl
  simp [execOp, ha.ev hy, ha.ev hi, ha.ev hj, Instr.sliceAt, Instr.slice, run_underlying h1, e1, e, jo]
theorem y_slices_lo {y i1 : Operand} {s : a6} {i : Int} {m : Nat} {k1 : IntKind} {t : TypeId} (h1 : x.P.underlying t = some .string) (hy : ev l y = some (.string (ba s))) (hi : ev l i1 = some (.int k1 i))
    (hm : i = (m : Int)) (b1 : m ≤ s.length) :
    Yv x l L S ⟨some d, .slice t y (some i1) none none, ty, pos, af, gd⟩ (.string (ba (s.drop m))) := fun a w ha hw => by
  subst hm
  have e := run_bounds_lo (P := x.P) (w := w) (isSlice := false) (len := s.length) (cap := s.length) (k1 := k1) (i := m) (by omega) (by omega)
  have e1 : (ba s).size = s.length := rfl
  have e2 := jo s m s.length
  rw [List.take_length] at e2
  simp [execOp, ha.ev hy, ha.ev hi, Instr.sliceAt, Instr.slice, run_underlying h1, e1, e, e2]
theorem y_slices_hi {y j1 : Operand} {s : a6} {j : Int} {n : Nat} {k1 : IntKind} {t : TypeId} (h1 : x.P.underlying t = some .string) (hy : ev l y = some (.string (ba s))) (hj : ev l j1 = some (.int k1 j))
    (hn : j = (n : Int)) (b1 : n ≤ s.length) :
    Yv x l L S ⟨some d, .slice t y none (some j1) none, ty, pos, af, gd⟩ (.string (ba (s.take n))) := fun a w ha hw => by
  subst hn
  have e := run_bounds_hi (P := x.P) (w := w) (isSlice := false) (len := s.length) (cap := s.length) (k1 := k1) (j := n) (by omega) (by omega)
  have e1 : (ba s).size = s.length := rfl
  have e2 := jo s 0 n
  simp [execOp, ha.ev hy, ha.ev hj, Instr.sliceAt, Instr.slice, run_underlying h1, e1, e, e2]
theorem y_indexAddr {y z : Operand} {b o n c : Nat} {i : Int} {k : Nat} {k0 : IntKind} {t e : TypeId} {agg : Bool} {sz bytes : Nat} {zv : Value} (h1 : x.P.underlying t = some (.slice e)) (he : TyI x.P e agg sz bytes zv) (hy : ev l y = some (.slice (some ⟨b, o, none⟩) n c)) (hz : ev l z = some (.int k0 i))
    (hk : i = (k : Int)) (hlt : k < n) : Yv x l L S ⟨some d, .indexAddr t y z, ty, pos, af, gd⟩ (.pointer (some ⟨b, o + k * sz, none⟩)) := fun a w ha hw => by
  subst hk
  have hadd : Addr.add ⟨b, o, none⟩ (k * sz) = ⟨b, o + k * sz, none⟩ := by
    unfold Addr.add; split
    · rename_i h0; rw [h0]; rfl
    · rfl
  simp [execOp, ha.ev hy, ha.ev hz, Instr.indexAt, asIntOf, run_underlying h1, he.size, hadd]
  intro h; omega
end ops
end Go.Proofs.YtnpdgmoeoidppaaGreat
