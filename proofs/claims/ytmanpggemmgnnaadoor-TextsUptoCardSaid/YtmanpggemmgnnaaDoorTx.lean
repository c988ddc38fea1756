/-
  PLAIN LAW, no program in sight: ids, packets, objects, commands as lists of bytes: what the document's chapter on texts says, as Lean functions. No conditions.
-/
namespace Go.Proofs.YtmanpggemmgnnaaDoor.Tx
abbrev B := List UInt8

/-- FNV-1a, one byte. -/
def fnvStep (h : Nat) (c : UInt8) : Nat := ((h ^^^ c.toNat) * 16777619) % 4294967296
def fnv (l : B) : Nat := l.foldl fnvStep 2166136261
/-- A digit of 0 to 15. -/
def dig (n : Nat) : UInt8 := if n < 10 then UInt8.ofNat (48 + n) else UInt8.ofNat (87 + n)
/-- k digits, the highest first. -/
def hexN : Nat → Nat → B
  | 0, _ => []
  | k + 1, n => hexN k (n / 16) ++ [dig (n % 16)]
def idOf (l : B) : B := hexN 8 (fnv l)
def packet (l : B) : B := if l.length = 0 ∨ 200 < l.length then [] else hexN 4 (l.length + 4) ++ l

def isHexB (c : UInt8) : Bool := (decide (48 ≤ c.toNat) && decide (c.toNat ≤ 57)) || (decide (97 ≤ c.toNat) && decide (c.toNat ≤ 102))
def isLow (c : UInt8) : Bool := decide (97 ≤ c.toNat) && decide (c.toNat ≤ 122)
def hex (l : B) : Bool := l.all isHexB
def zero8 : B := [48, 48, 48, 48, 48, 48, 48, 48]
def idd (l : B) : Bool := hex l && (decide (l.length = 8) && (l != zero8))
def line (l : B) (n : Nat) : Bool := l.all (· != 10) && decide (l.length ≤ n)
def nameOk (l : B) : Bool := l.all isLow && (decide (1 ≤ l.length) && decide (l.length ≤ 8))

/-- The text ahead of the first c, what stands behind it, whether there is one. -/
def cut (c : UInt8) : B → B × B × Bool
  | [] => ([], [], false)
  | x :: r => if x = c then ([], r, true) else (x :: (cut c r).1, (cut c r).2.1, (cut c r).2.2)
/-- All pieces. -/
def split (c : UInt8) : B → List B
  | [] => [[]]
  | x :: r => if x = c then [] :: split c r else match split c r with | [] => [[x]] | p :: ps => (x :: p) :: ps
/-- As texts: a is not behind b. -/
def leB : B → B → Bool
  | [], _ => true
  | _ :: _, [] => false
  | a :: r, b :: s => decide (a.toNat < b.toNat) || (decide (a = b) && leB r s)
/-- The entries of a tree from the one behind 'last' on. -/
def entries : B → List B → Option (List B)
  | _, [] => some []
  | last, e :: r =>
    if (cut 61 e).2.2 && nameOk (cut 61 e).1 && idd (cut 61 e).2.1 && !leB (cut 61 e).1 last then (entries (cut 61 e).1 r).map ((cut 61 e).2.1 :: ·) else none
def tree (l : B) : Option (List B) := if l = [] then some [] else entries [] (split 44 l)
def commit (l : B) : Option (List B) :=
  let a := cut 32 l
  let b := cut 32 a.2.1
  if b.2.2 && idd a.1 && line b.2.1 20 then
    if b.1 = [45] then some [a.1]
    else if (split 43 b.1).length ≤ 2 && (split 43 b.1).all idd then some (a.1 :: split 43 b.1) else none
  else none
/-- An object: its kind ('b', 't', 'c'), the ids that it names. -/
structure Obj where
  kind : UInt8
  ids : List B
  deriving DecidableEq
def kBlob : B := [98, 108, 111, 98]
def kTree : B := [116, 114, 101, 101]
def kCommit : B := [99, 111, 109, 109, 105, 116]
def parse (l : B) : Option Obj :=
  let a := cut 32 l
  if a.2.2 && idOf l != zero8 then
    if a.1 = kBlob then (if line a.2.1 40 then some ⟨98, []⟩ else none)
    else if a.1 = kTree then (tree a.2.1).map (⟨116, ·⟩)
    else if a.1 = kCommit then (commit a.2.1).map (⟨99, ·⟩)
    else none
  else none

end Go.Proofs.YtmanpggemmgnnaaDoor.Tx
