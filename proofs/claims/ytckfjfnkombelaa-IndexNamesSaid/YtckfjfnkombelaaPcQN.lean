/- Addresses, records, entries: plain laws. -/
import Derived.Test.YtckfjfnkombelaaPbQN
import Derived.Test.YtckfjfnkombelaaLmQN
namespace Go.Proofs.Ytckfjfnkombelaa
open Go.RowKit Go.Shelf
set_option linter.unusedVariables false
set_option linter.unusedSimpArgs false

/-- An address. -/
structure Ad where
  six : Bool
  hi : Int
  lo : Int
  deriving DecidableEq
def adC (a : Ad) : List Value := [.bool a.six, .int .u64 a.hi, .int .u64 a.lo]
theorem enc_ad : Enc adC 3 := ⟨fun _ => rfl, fun _ => rfl⟩
def ad0 : Ad := ⟨false, 0, 0⟩
/-- A record's data (without texts). -/
structure Dt where
  ad : Ad
  name : Str
  mail : Str
  n0 : Int
  n1 : Int
  n2 : Int
  n3 : Int
  n4 : Int
  raw : Str
  deriving DecidableEq
/-- A record. -/
structure Rc where
  name : Str
  ty : Int
  cl : Int
  ttl : Int
  dt : Dt
  deriving DecidableEq
/-- An entry; where its slices lie stands beside. -/
structure En where
  host : Str
  kind : Int
  cluster : Str
  addrs : List Ad
  alias : Str
  ports : List Int
  ttl : Int
  deriving DecidableEq
def enC (e : En) (A B : Option Addr) (c d : Nat) : List Value := [.string (ba e.host), .int .i64 e.kind, .string (ba e.cluster), .slice A e.addrs.length c, .string (ba e.alias), .slice B e.ports.length d, .int .u32 e.ttl]

/-- addr.Check. -/
def addrCk (a : Ad) : Int := if a.six = false ∧ (a.hi ≠ 0 ∨ 4294967296 ≤ a.lo) then 2 else 0
theorem shr32 {n : Int} (h : 0 ≤ n) : (n.fdiv (2 ^ min (32 : Int).toNat IntKind.u64.bits) ≠ 0) ↔ 4294967296 ≤ n := by
  have e : (2 : Int) ^ min (32 : Int).toNat IntKind.u64.bits = 4294967296 := by decide
  rw [e, Int.fdiv_eq_ediv_of_nonneg _ (by decide)]
  omega
/-- name.Wild. -/
def wildN (n : Str) : Bool := decide (nameCk n = 0) && decide ([1, 42] <+: n)
/-- entry.ports. -/
def portOk (l : List Int) (i : Nat) : Prop := 1 ≤ l.getD i 0 ∧ l.getD i 0 ≤ 65535 ∧ (0 < i → l.getD (i - 1) 0 < l.getD i 0)
instance (l : List Int) (i : Nat) : Decidable (portOk l i) := by unfold portOk; infer_instance
def portsOk (l : List Int) : Bool := decide (∀ i, i < l.length → portOk l i) && decide (l.length ≤ 8)
/-- entry.addrs. -/
def adOk (l : List Ad) (i : Nat) : Prop := addrCk (l.getD i ad0) = 0 ∧ ∀ j, j < i → l.getD i ad0 ≠ l.getD j ad0
instance (l : List Ad) (i : Nat) : Decidable (adOk l i) := by unfold adOk; infer_instance
def adsOk (l : List Ad) : Bool := decide (∀ i, i < l.length → adOk l i) && decide (1 ≤ l.length) && decide (l.length ≤ 8)
/-- entry.may, entry.Check. -/
def mayOk (e : En) : Bool :=
  if e.kind = 1 then adsOk e.addrs && decide (e.alias = []) && decide (labCk e.cluster = 0)
  else if e.kind = 2 then decide (e.addrs.length = 0) && decide (e.alias = []) && decide (labCk e.cluster = 0)
  else if e.kind = 3 then decide (e.addrs.length = 0) && decide (e.ports.length = 0) && decide (e.cluster = []) && decide (e.alias ≠ []) && decide (nameCk e.alias = 0) && !wildN e.alias
  else false
def entCk (e : En) : Int := if nameCk e.host ≠ 0 then nameCk e.host else if e.host = [] ∨ 2147483647 < e.ttl ∨ portsOk e.ports = false ∨ mayOk e = false then 2 else 0
/-- entry.Addrs, entry.Records. -/
def entAd (e : En) (held : List Ad) : List Ad := if entCk e ≠ 0 then [] else if e.kind = 1 then e.addrs else if e.kind ≠ 2 then [] else held.filter fun a => decide (addrCk a = 0)
def each {α : Type} (D : α → Dt) (B : α → Bool) (r : Rc) (l : List α) : List Rc := (l.filter B).map fun a => { r with dt := D a }
end Go.Proofs.Ytckfjfnkombelaa
