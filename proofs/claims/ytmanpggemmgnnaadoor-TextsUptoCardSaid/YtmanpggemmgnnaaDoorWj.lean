/-
  WALK: the program's Look: what the object names, in memory of its own. Conditions: the text is shorter than 2^24 bytes; it names fewer than 2^40 ids.
-/
import Derived.Test.YtmanpggemmgnnaaDoorWi
namespace Go.Proofs.YtmanpggemmgnnaaDoor
open Go Go.RowKit Go.Shelf Ba Num Fr
namespace Wj
open Wg Wi
theorem nm_blob (a : Addr) (w : World) : (method 239 55 (.pointer (some a)) "Names").run Tryd.prog w = .ok (74, .pointer (some a)) w := by kernel_rfl
theorem nm_tree (a : Addr) (w : World) : (method 239 58 (.pointer (some a)) "Names").run Tryd.prog w = .ok (74, .pointer (some a)) w := by kernel_rfl
theorem nm_commit (a : Addr) (w : World) : (method 239 60 (.pointer (some a)) "Names").run Tryd.prog w = .ok (74, .pointer (some a)) w := by kernel_rfl
theorem nm_any (k : UInt8) (a : Addr) (w : World) : (method 239 (ifT k) (.pointer (some a)) "Names").run Tryd.prog w = .ok (74, .pointer (some a)) w := by
  unfold ifT
  split
  · exact nm_blob a w
  · split
    · exact nm_tree a w
    · exact nm_commit a w
/-- What Look answers: the names in a row of its own, and true; or nil and false. -/
def LookAll (w : World) (res : Option (List Tx.B)) (e : Ending) (w' : World) : Prop :=
  match res with
  | none => e = .returned (.tuple #[.slice none 0 0, .bool false]) ∧ Below w.heap.size w w'
  | some ids => ∃ v, e = .returned (.tuple #[v, .bool true]) ∧ w'.ownsRow w.heap.size 9 1 v ids.length (ids.map strV) ∧ Below w.heap.size w w'
def NamesPost (w : World) (ids : List Tx.B) (e : Ending) (w' : World) : Prop := ∃ v', e = .returned v' ∧ w'.ownsRow w.heap.size 9 1 v' ids.length (ids.map strV) ∧ Below w.heap.size w w'
set_option maxHeartbeats 1000000 in
theorem look_any (s : ByteArray) (w : World) (hs : s.size < 16777216) (hids : ∀ o, Tx.parse s.data.toList = some o → o.ids.length < 1099511627776) :
    Calls Tryd.prog 9 #[.string s] w (LookAll w ((Tx.parse s.data.toList).map (·.ids))) := by
  have C := Lib.hid (parse_all s w hs)
  generalize Tx.parse s.data.toList = r at C hids
  cases r with
  | none =>
    go_enter Tryd.func9, Tryd.ntmps9
    go_wp2_with fail
    refine C.out.mono ?_
    rintro e w1 ⟨⟨a, rfl⟩, hb⟩
    have hb := Lib.hid hb
    go_wp2
    go_ret2
    exact ⟨rfl, hb.out⟩
  | some o =>
    have hl := hids o rfl
    clear hids
    have hm := nm_any o.kind
    generalize hT : ifT o.kind = T at hm
    go_enter Tryd.func9, Tryd.ntmps9
    go_wp2_with fail
    refine C.out.mono ?_
    rintro e w1 ⟨b, v, rfl, hge, h2, hown, hne, hb⟩
    rw [hT]
    have C2 : Calls Tryd.prog 74 #[.pointer (some ⟨b, 0, none⟩)] w1 (NamesPost w1 o.ids) := names_any b _ _ v o.ids _ w1 hl h2 hown
    have C2 := Lib.hid C2
    have hb := Lib.hid hb
    clear h2 hown hne hT C
    go_wp2_with fail
    refine C2.out.mono ?_
    rintro e w2 ⟨v2, rfl, hown2, hb2⟩
    have K := Lib.hid (And.intro hown2 hb2)
    have hsz := hb.out.size
    clear hown2 hb2
    go_wp2
    go_ret2
    exact ⟨_, rfl, ownsRow_mono K.out.1 hsz, hb.out.trans (K.out.2.mono hsz)⟩
end Wj
end Go.Proofs.YtmanpggemmgnnaaDoor
