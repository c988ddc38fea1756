/-
  WALK: the program's Parse and Names: an object's text gives its kind, its names in order, in memory of its own; or an error. Condition: the text is shorter than 2^24 bytes.
-/
import Derived.Test.YtmanpggemmgnnaaDoorWh
import Derived.Test.YtmanpggemmgnnaaDoorWb
import Derived.Laws.AppendOwnNone
namespace Go.Proofs.YtmanpggemmgnnaaDoor
open Go Go.RowKit Go.Shelf Ba Num Fr
theorem below_drew {B : Nat} {a w : World} (h : Below B a w) (n : Nat) : Below B a (w.drewN n) := ⟨h.os, h.tape, h.output, h.size, h.block⟩
namespace Wi
open Wg
set_option maxHeartbeats 1000000 in
theorem names_some (b g cap : Nat) (t : TypeId) (x : Value) (ids : List Tx.B) (B : Nat) (w : World) (hn : ids.length < 1099511627776)
    (h2 : Two w b t x (.slice (some ⟨g, 0, none⟩) ids.length cap)) (hown : w.ownsRow B 9 1 (.slice (some ⟨g, 0, none⟩) ids.length cap) ids.length (ids.map strV)) :
    Calls Tryd.prog 74 #[.pointer (some ⟨b, 0, none⟩)] w fun e w' => ∃ v', e = .returned v' ∧ w'.ownsRow w.heap.size 9 1 v' ids.length (ids.map strV) ∧ Below w.heap.size w w' := by
  obtain ⟨i0, hi, hz0, hz1, hz2⟩ := info_parts Tryd.infoS
  have k1 := h2.c1
  have hcells := hown.cells (g := g) rfl
  have hcells := Lib.hid hcells
  have hnil := World.ownsRow_nil w w.heap.size 9 1
  clear h2 hown
  go_enter Tryd.func74, Tryd.ntmps74
  go_wp2_with (at_builtin; refine wpList_append_own _ rfl (.const (.slice none 0 0)) (.tmp 6) 28 rfl w.heap.size 9 i0 (.string ByteArray.empty) 1 16 Tryd.underlying28 hi hz0 hz1 hz2 rfl (by decide) (.slice none 0 0) 0 [] rfl hnil ⟨g, 0, none⟩ ids.length cap (ids.map strV) rfl ?c0 ?c1 ?c2 ?c3 ?c4 ?c5 ?_)
  case c0 => simp
  case c1 => exact hcells.out
  case c2 => intro u hu; obtain ⟨l, _, rfl⟩ := List.mem_map.1 hu; rfl
  case c3 => unfold maxLen; omega
  case c4 => omega
  case c5 => exact Nat.le_refl _
  intro v' w1 hown1 hgrow _
  have K := Lib.hid (And.intro hown1 hgrow)
  clear hown1 hgrow k1 hnil
  go_wp2
  go_ret
  exact ⟨_, rfl, K.out.1, ((Below.refl _ _).grown K.out.2 (Nat.le_refl _) (fun k h => by cases h))⟩
set_option maxHeartbeats 1000000 in
theorem names_none (b : Nat) (t : TypeId) (x : Value) (w : World) (h2 : Two w b t x (.slice none 0 0)) :
    Calls Tryd.prog 74 #[.pointer (some ⟨b, 0, none⟩)] w fun e w' => e = .returned (.slice none 0 0) ∧ w' = w := by
  obtain ⟨i0, hi, hz0, hz1, hz2⟩ := info_parts Tryd.infoS
  have k1 := h2.c1
  have hnil := World.ownsRow_nil w w.heap.size 9 1
  clear h2
  go_enter Tryd.func74, Tryd.ntmps74
  go_wp2_with (at_builtin; refine wpList_append_own_none rfl (.const (.slice none 0 0)) (.tmp 6) 28 rfl w.heap.size 9 i0 1 Tryd.underlying28 hi (.slice none 0 0) 0 [] rfl hnil rfl ?_)
  go_ret
  exact ⟨rfl, rfl⟩
theorem names_any (b : Nat) (t : TypeId) (x v : Value) (ids : List Tx.B) (B : Nat) (w : World) (hn : ids.length < 1099511627776)
    (h2 : Two w b t x v) (hown : w.ownsRow B 9 1 v ids.length (ids.map strV)) :
    Calls Tryd.prog 74 #[.pointer (some ⟨b, 0, none⟩)] w fun e w' => ∃ v', e = .returned v' ∧ w'.ownsRow w.heap.size 9 1 v' ids.length (ids.map strV) ∧ Below w.heap.size w w' := by
  rcases hown.2 with ⟨rfl, h0⟩ | ⟨g, cap, cur, rfl, _⟩
  · obtain rfl := List.eq_nil_of_length_eq_zero h0
    exact (names_none b t x w h2).mono fun e w' h => ⟨_, h.1, h.2 ▸ World.ownsRow_nil _ _ _ _, h.2 ▸ Below.refl _ _⟩
  · exact names_some b g cap t x ids B w hn h2 hown
set_option maxHeartbeats 1000000 in
theorem blob_pp (b : Nat) (t : TypeId) (s0 : Value) (s : ByteArray) (w : World) (h2 : Two w b t s0 (.slice none 0 0)) :
    Calls Tryd.prog 76 #[.pointer (some ⟨b, 0, none⟩), .string s] w (ParsePost w b t s0 (if Tx.line s.data.toList 40 then some [] else none)) := by
  cases h : Tx.line s.data.toList 40
  · exact (Wf.blob_no b s w h).mono fun e w' hh => ⟨hh.1, (Chg.refl _ w).trans' (Chg.ofB hh.2) (fun _ _ (e : False) => e.elim)⟩
  · exact (Wf.blob_yes b s w h).mono fun e w' hh => ⟨hh.1, _, hh.2 ▸ h2, World.ownsRow_nil _ _ _ _, hh.2 ▸ Chg.refl _ _⟩
theorem meth_blob (a : Addr) (w : World) : (method 239 55 (.pointer (some a)) "refserve/object.parse").run Tryd.prog w = .ok (76, .pointer (some a)) w := by kernel_rfl
theorem meth_tree (a : Addr) (w : World) : (method 239 58 (.pointer (some a)) "refserve/object.parse").run Tryd.prog w = .ok (80, .pointer (some a)) w := by kernel_rfl
theorem meth_commit (a : Addr) (w : World) : (method 239 60 (.pointer (some a)) "refserve/object.parse").run Tryd.prog w = .ok (107, .pointer (some a)) w := by kernel_rfl
/-- The interface type's number, the block's type's number, of an object of this kind. -/
def ifT (k : UInt8) : TypeId := if k = 98 then 55 else if k = 116 then 58 else 60
def blT (k : UInt8) : TypeId := if k = 98 then 57 else if k = 116 then 59 else 61
/-- What Parse answers: nil and an error, or an object of its own block with its text and the names in a row behind it. -/
def ParseAll (w : World) (s : ByteArray) (res : Option Tx.Obj) (e : Ending) (w' : World) : Prop :=
  match res with
  | none => (∃ a, e = .returned (.tuple #[.nilIface, .iface 50 (.pointer (some a))])) ∧ Below w.heap.size w w'
  | some o => ∃ b v, e = .returned (.tuple #[.iface (ifT o.kind) (.pointer (some ⟨b, 0, none⟩)), .nilIface]) ∧ w.heap.size ≤ b ∧ Two w' b (blT o.kind) (.string s) v ∧
      w'.ownsRow w.heap.size 9 1 v o.ids.length (o.ids.map strV) ∧ (∀ k, v.ownBlock = some k → k ≠ b) ∧ Below w.heap.size w w'
theorem ownsRow_mono {w : World} {B B' E z n : Nat} {v : Value} {xs : List Value} (h : w.ownsRow B E z v n xs) (hB : B' ≤ B) : w.ownsRow B' E z v n xs := by
  obtain ⟨hl, hc⟩ := h
  refine ⟨hl, ?_⟩
  rcases hc with hc | ⟨g, cap, cur, h0, h1, h2⟩
  · exact .inl hc
  · exact .inr ⟨g, cap, cur, h0, Nat.le_trans hB h1, h2⟩
set_option maxHeartbeats 2000000 in
set_option maxRecDepth 100000 in
theorem parse_blob (s : ByteArray) (w : World) (hs : s.size < 16777216) (word rest : Tx.B) (hw : word = Tx.kBlob) (h1 : Tx.cut 32 s.data.toList = (word, rest, true)) (h0 : Tx.idOf s.data.toList ≠ Tx.zero8) :
    Calls Tryd.prog 13 #[.string s] w (ParseAll w s (Option.map (⟨98, ·⟩) ((if Tx.line rest 40 then some [] else none : Option (List Tx.B))))) := by
  have C1 := Wf.cut_any s 32 w (by unfold maxLen; omega)
  have hrs : rest.length < 16777216 := by have := (cut_le 32 s.data.toList).2; rw [h1] at this; simp only at this; rw [size_len] at this; omega
  rw [h1] at C1
  have C1 := Lib.hid C1
  have C2 := Lib.hid (fun w => Wb.objID_any s w (by unfold maxLen; omega))
  clear h1
  have t0 : (Tx.idOf s.data.toList == [48, 48, 48, 48, 48, 48, 48, 48]) = false := beq_eq_false_iff_ne.2 h0
  clear h0
  have tb : (word == [98, 108, 111, 98]) = true := by rw [hw]; decide
  have tt : (word == [116, 114, 101, 101]) = false := by rw [hw]; decide
  have tc : (word == [99, 111, 109, 109, 105, 116]) = false := by rw [hw]; decide
  clear hw
  generalize Tx.idOf s.data.toList = own at C2 t0
  have hm := meth_blob
  have C3 := Lib.hid (fun b w3 (h2 : Two w3 b 57 (.string s) (.slice none 0 0)) => blob_pp b 57 (.string s) ⟨rest.toArray⟩ w3 h2)
  change Hid (∀ b w3, Two w3 b 57 (.string s) (.slice none 0 0) → Calls Tryd.prog 76 #[.pointer (some ⟨b, 0, none⟩), .string ⟨rest.toArray⟩] w3 (ParsePost w3 b 57 (.string s) ((if Tx.line rest 40 then some [] else none : Option (List Tx.B))))) at C3
  generalize hres : (if Tx.line rest 40 then some [] else none : Option (List Tx.B)) = res at C3
  clear hres
  go_enter Tryd.func13, Tryd.ntmps13
  go_wp2_with fail
  refine C1.out.mono ?_
  rintro e w' ⟨rfl, q, rfl⟩
  go_wp2_with fail
  refine (C2.out _).mono ?_
  rintro e w2 ⟨rfl, hb2⟩
  have hb2 := Lib.hid hb2
  go_wp2_with fail
  have h2 : Two ((w2.alloc (.cells #[.string s, .slice none 0 0] 54)).alloc (.cells #[.string s, .slice none 0 0] 57)) (w2.heap.size + 1) 57 (.string s) (.slice none 0 0) := by
    have := heap_alloc_new (w2.alloc (.cells #[.string s, .slice none 0 0] 54)) (.cells #[.string s, .slice none 0 0] 57)
    rw [World.size_alloc] at this; exact this
  refine (C3.out _ _ h2).mono ?_
  intro e w4 hp
  have hchg := Lib.hid (show Below w.heap.size w ((w2.alloc (.cells #[.string s, .slice none 0 0] 54)).alloc (.cells #[.string s, .slice none 0 0] 57)) from (((below_drew (Below.refl w.heap.size w) q).trans hb2.out).alloc hb2.out.size _).alloc (by rw [World.size_alloc]; have := hb2.out.size; simp only [World.drewN] at this; omega) _)
  have hsz := hb2.out.size
  cases res with
  | none =>
    obtain ⟨⟨a, rfl⟩, hc⟩ := hp
    have hc := Lib.hid hc
    clear h2
    go_wp2
    go_ret2
    exact ⟨⟨_, rfl⟩, hchg.out.trans (hc.out.below (by simp only [World.size_alloc]; simp only [World.drewN] at hsz; omega) (fun k e => by subst e; simp only [World.drewN] at hsz; omega))⟩
  | some ids =>
    obtain ⟨rfl, v, r1, r2, r3⟩ := hp
    have K := Lib.hid (And.intro r1 (And.intro r2 r3))
    clear h2 r1 r2 r3
    go_wp2
    go_ret2
    obtain ⟨r1, r2, r3⟩ := K.out
    simp only [World.size_alloc] at r2
    simp only [World.drewN] at hsz
    exact ⟨_, v, rfl, by omega, r1, ownsRow_mono r2 (by omega), fun k hk e => by have := (r2.lt k hk).1; omega, hchg.out.trans (r3.below (by simp only [World.size_alloc]; omega) (fun k e => by subst e; omega))⟩
set_option maxHeartbeats 2000000 in
set_option maxRecDepth 100000 in
theorem parse_tree (s : ByteArray) (w : World) (hs : s.size < 16777216) (word rest : Tx.B) (hw : word = Tx.kTree) (h1 : Tx.cut 32 s.data.toList = (word, rest, true)) (h0 : Tx.idOf s.data.toList ≠ Tx.zero8) :
    Calls Tryd.prog 13 #[.string s] w (ParseAll w s (Option.map (⟨116, ·⟩) ((Tx.tree rest)))) := by
  have C1 := Wf.cut_any s 32 w (by unfold maxLen; omega)
  have hrs : rest.length < 16777216 := by have := (cut_le 32 s.data.toList).2; rw [h1] at this; simp only at this; rw [size_len] at this; omega
  rw [h1] at C1
  have C1 := Lib.hid C1
  have C2 := Lib.hid (fun w => Wb.objID_any s w (by unfold maxLen; omega))
  clear h1
  have t0 : (Tx.idOf s.data.toList == [48, 48, 48, 48, 48, 48, 48, 48]) = false := beq_eq_false_iff_ne.2 h0
  clear h0
  have tb : (word == [98, 108, 111, 98]) = false := by rw [hw]; decide
  have tt : (word == [116, 114, 101, 101]) = true := by rw [hw]; decide
  have tc : (word == [99, 111, 109, 109, 105, 116]) = false := by rw [hw]; decide
  clear hw
  generalize Tx.idOf s.data.toList = own at C2 t0
  have hm := meth_tree
  have C3 := Lib.hid (fun b w3 (h2 : Two w3 b 59 (.string s) (.slice none 0 0)) => Wg.tree_all b 59 (.string s) ⟨rest.toArray⟩ w3 (show rest.length < _ from hrs) h2)
  change Hid (∀ b w3, Two w3 b 59 (.string s) (.slice none 0 0) → Calls Tryd.prog 80 #[.pointer (some ⟨b, 0, none⟩), .string ⟨rest.toArray⟩] w3 (ParsePost w3 b 59 (.string s) ((Tx.tree rest)))) at C3
  generalize hres : (Tx.tree rest) = res at C3
  clear hres
  go_enter Tryd.func13, Tryd.ntmps13
  go_wp2_with fail
  refine C1.out.mono ?_
  rintro e w' ⟨rfl, q, rfl⟩
  go_wp2_with fail
  refine (C2.out _).mono ?_
  rintro e w2 ⟨rfl, hb2⟩
  have hb2 := Lib.hid hb2
  go_wp2_with fail
  have h2 : Two ((w2.alloc (.cells #[.string s, .slice none 0 0] 54)).alloc (.cells #[.string s, .slice none 0 0] 59)) (w2.heap.size + 1) 59 (.string s) (.slice none 0 0) := by
    have := heap_alloc_new (w2.alloc (.cells #[.string s, .slice none 0 0] 54)) (.cells #[.string s, .slice none 0 0] 59)
    rw [World.size_alloc] at this; exact this
  refine (C3.out _ _ h2).mono ?_
  intro e w4 hp
  have hchg := Lib.hid (show Below w.heap.size w ((w2.alloc (.cells #[.string s, .slice none 0 0] 54)).alloc (.cells #[.string s, .slice none 0 0] 59)) from (((below_drew (Below.refl w.heap.size w) q).trans hb2.out).alloc hb2.out.size _).alloc (by rw [World.size_alloc]; have := hb2.out.size; simp only [World.drewN] at this; omega) _)
  have hsz := hb2.out.size
  cases res with
  | none =>
    obtain ⟨⟨a, rfl⟩, hc⟩ := hp
    have hc := Lib.hid hc
    clear h2
    go_wp2
    go_ret2
    exact ⟨⟨_, rfl⟩, hchg.out.trans (hc.out.below (by simp only [World.size_alloc]; simp only [World.drewN] at hsz; omega) (fun k e => by subst e; simp only [World.drewN] at hsz; omega))⟩
  | some ids =>
    obtain ⟨rfl, v, r1, r2, r3⟩ := hp
    have K := Lib.hid (And.intro r1 (And.intro r2 r3))
    clear h2 r1 r2 r3
    go_wp2
    go_ret2
    obtain ⟨r1, r2, r3⟩ := K.out
    simp only [World.size_alloc] at r2
    simp only [World.drewN] at hsz
    exact ⟨_, v, rfl, by omega, r1, ownsRow_mono r2 (by omega), fun k hk e => by have := (r2.lt k hk).1; omega, hchg.out.trans (r3.below (by simp only [World.size_alloc]; omega) (fun k e => by subst e; omega))⟩
set_option maxHeartbeats 2000000 in
set_option maxRecDepth 100000 in
theorem parse_commit (s : ByteArray) (w : World) (hs : s.size < 16777216) (word rest : Tx.B) (hw : word = Tx.kCommit) (h1 : Tx.cut 32 s.data.toList = (word, rest, true)) (h0 : Tx.idOf s.data.toList ≠ Tx.zero8) :
    Calls Tryd.prog 13 #[.string s] w (ParseAll w s (Option.map (⟨99, ·⟩) ((Tx.commit rest)))) := by
  have C1 := Wf.cut_any s 32 w (by unfold maxLen; omega)
  have hrs : rest.length < 16777216 := by have := (cut_le 32 s.data.toList).2; rw [h1] at this; simp only at this; rw [size_len] at this; omega
  rw [h1] at C1
  have C1 := Lib.hid C1
  have C2 := Lib.hid (fun w => Wb.objID_any s w (by unfold maxLen; omega))
  clear h1
  have t0 : (Tx.idOf s.data.toList == [48, 48, 48, 48, 48, 48, 48, 48]) = false := beq_eq_false_iff_ne.2 h0
  clear h0
  have tb : (word == [98, 108, 111, 98]) = false := by rw [hw]; decide
  have tt : (word == [116, 114, 101, 101]) = false := by rw [hw]; decide
  have tc : (word == [99, 111, 109, 109, 105, 116]) = true := by rw [hw]; decide
  clear hw
  generalize Tx.idOf s.data.toList = own at C2 t0
  have hm := meth_commit
  have C3 := Lib.hid (fun b w3 (h2 : Two w3 b 61 (.string s) (.slice none 0 0)) => Wh.commit_any b 61 (.string s) ⟨rest.toArray⟩ w3 (show rest.length < _ from hrs) h2)
  change Hid (∀ b w3, Two w3 b 61 (.string s) (.slice none 0 0) → Calls Tryd.prog 107 #[.pointer (some ⟨b, 0, none⟩), .string ⟨rest.toArray⟩] w3 (ParsePost w3 b 61 (.string s) ((Tx.commit rest)))) at C3
  generalize hres : (Tx.commit rest) = res at C3
  clear hres
  go_enter Tryd.func13, Tryd.ntmps13
  go_wp2_with fail
  refine C1.out.mono ?_
  rintro e w' ⟨rfl, q, rfl⟩
  go_wp2_with fail
  refine (C2.out _).mono ?_
  rintro e w2 ⟨rfl, hb2⟩
  have hb2 := Lib.hid hb2
  go_wp2_with fail
  have h2 : Two ((w2.alloc (.cells #[.string s, .slice none 0 0] 54)).alloc (.cells #[.string s, .slice none 0 0] 61)) (w2.heap.size + 1) 61 (.string s) (.slice none 0 0) := by
    have := heap_alloc_new (w2.alloc (.cells #[.string s, .slice none 0 0] 54)) (.cells #[.string s, .slice none 0 0] 61)
    rw [World.size_alloc] at this; exact this
  refine (C3.out _ _ h2).mono ?_
  intro e w4 hp
  have hchg := Lib.hid (show Below w.heap.size w ((w2.alloc (.cells #[.string s, .slice none 0 0] 54)).alloc (.cells #[.string s, .slice none 0 0] 61)) from (((below_drew (Below.refl w.heap.size w) q).trans hb2.out).alloc hb2.out.size _).alloc (by rw [World.size_alloc]; have := hb2.out.size; simp only [World.drewN] at this; omega) _)
  have hsz := hb2.out.size
  cases res with
  | none =>
    obtain ⟨⟨a, rfl⟩, hc⟩ := hp
    have hc := Lib.hid hc
    clear h2
    go_wp2
    go_ret2
    exact ⟨⟨_, rfl⟩, hchg.out.trans (hc.out.below (by simp only [World.size_alloc]; simp only [World.drewN] at hsz; omega) (fun k e => by subst e; simp only [World.drewN] at hsz; omega))⟩
  | some ids =>
    obtain ⟨rfl, v, r1, r2, r3⟩ := hp
    have K := Lib.hid (And.intro r1 (And.intro r2 r3))
    clear h2 r1 r2 r3
    go_wp2
    go_ret2
    obtain ⟨r1, r2, r3⟩ := K.out
    simp only [World.size_alloc] at r2
    simp only [World.drewN] at hsz
    exact ⟨_, v, rfl, by omega, r1, ownsRow_mono r2 (by omega), fun k hk e => by have := (r2.lt k hk).1; omega, hchg.out.trans (r3.below (by simp only [World.size_alloc]; omega) (fun k e => by subst e; omega))⟩
set_option maxHeartbeats 2000000 in
set_option maxRecDepth 100000 in
theorem parse_other (s : ByteArray) (w : World) (hs : s.size < 16777216) (word rest : Tx.B) (hb : word ≠ Tx.kBlob) (ht : word ≠ Tx.kTree) (hc : word ≠ Tx.kCommit) (h1 : Tx.cut 32 s.data.toList = (word, rest, true)) (h0 : Tx.idOf s.data.toList ≠ Tx.zero8) :
    Calls Tryd.prog 13 #[.string s] w (ParseAll w s none) := by
  have C1 := Wf.cut_any s 32 w (by unfold maxLen; omega)
  rw [h1] at C1
  have C1 := Lib.hid C1
  have C2 := Lib.hid (fun w => Wb.objID_any s w (by unfold maxLen; omega))
  clear h1
  have t0 : (Tx.idOf s.data.toList == [48, 48, 48, 48, 48, 48, 48, 48]) = false := beq_eq_false_iff_ne.2 h0
  clear h0
  have tb : (word == [98, 108, 111, 98]) = false := beq_eq_false_iff_ne.2 hb
  have tt : (word == [116, 114, 101, 101]) = false := beq_eq_false_iff_ne.2 ht
  have tc : (word == [99, 111, 109, 109, 105, 116]) = false := beq_eq_false_iff_ne.2 hc
  clear hb ht hc
  generalize Tx.idOf s.data.toList = own at C2 t0
  go_enter Tryd.func13, Tryd.ntmps13
  go_wp2_with fail
  refine C1.out.mono ?_
  rintro e w' ⟨rfl, q, rfl⟩
  go_wp2_with fail
  refine (C2.out _).mono ?_
  rintro e w2 ⟨rfl, hb2⟩
  have hb2 := Lib.hid hb2
  go_wp2
  go_ret2
  have hsz := hb2.out.size
  simp only [World.drewN] at hsz
  exact ⟨⟨_, rfl⟩, ((((below_drew (Below.refl w.heap.size w) q).trans hb2.out).alloc hb2.out.size _).alloc (by simp only [World.size_alloc]; omega) _)⟩
set_option maxHeartbeats 2000000 in
set_option maxRecDepth 100000 in
theorem parse_nocut (s : ByteArray) (w : World) (hs : s.size < 16777216) (word rest : Tx.B) (h1 : Tx.cut 32 s.data.toList = (word, rest, false)) :
    Calls Tryd.prog 13 #[.string s] w (ParseAll w s none) := by
  have C1 := Wf.cut_any s 32 w (by unfold maxLen; omega)
  rw [h1] at C1
  have C1 := Lib.hid C1
  clear h1
  go_enter Tryd.func13, Tryd.ntmps13
  go_wp2_with fail
  refine C1.out.mono ?_
  rintro e w' ⟨rfl, q, rfl⟩
  go_wp2
  go_ret2
  exact ⟨⟨_, rfl⟩, ((below_drew (Below.refl w.heap.size w) q).alloc (Nat.le_refl _) _)⟩
set_option maxHeartbeats 2000000 in
set_option maxRecDepth 100000 in
theorem parse_zero (s : ByteArray) (w : World) (hs : s.size < 16777216) (word rest : Tx.B) (h1 : Tx.cut 32 s.data.toList = (word, rest, true)) (h0 : Tx.idOf s.data.toList = Tx.zero8) :
    Calls Tryd.prog 13 #[.string s] w (ParseAll w s none) := by
  have C1 := Wf.cut_any s 32 w (by unfold maxLen; omega)
  rw [h1] at C1
  have C1 := Lib.hid C1
  have C2 := Lib.hid (fun w => Wb.objID_any s w (by unfold maxLen; omega))
  clear h1
  have t0 : (Tx.idOf s.data.toList == [48, 48, 48, 48, 48, 48, 48, 48]) = true := beq_iff_eq.2 h0
  clear h0
  generalize Tx.idOf s.data.toList = own at C2 t0
  go_enter Tryd.func13, Tryd.ntmps13
  go_wp2_with fail
  refine C1.out.mono ?_
  rintro e w' ⟨rfl, q, rfl⟩
  go_wp2_with fail
  refine (C2.out _).mono ?_
  rintro e w2 ⟨rfl, hb2⟩
  have hb2 := Lib.hid hb2
  go_wp2
  go_ret2
  exact ⟨⟨_, rfl⟩, (((below_drew (Below.refl w.heap.size w) q).trans hb2.out).alloc hb2.out.size _)⟩
theorem parse_all (s : ByteArray) (w : World) (hs : s.size < 16777216) : Calls Tryd.prog 13 #[.string s] w (ParseAll w s (Tx.parse s.data.toList)) := by
  have hp : ∀ word rest f, Tx.cut 32 s.data.toList = (word, rest, f) → Tx.parse s.data.toList = if f && Tx.idOf s.data.toList != Tx.zero8 then
      if word = Tx.kBlob then (if Tx.line rest 40 then some ⟨98, []⟩ else none) else if word = Tx.kTree then (Tx.tree rest).map (⟨116, ·⟩) else if word = Tx.kCommit then (Tx.commit rest).map (⟨99, ·⟩) else none else none := by
    intro word rest f h; simp only [Tx.parse, h]
  rcases hc : Tx.cut 32 s.data.toList with ⟨word, rest, f⟩
  rw [hp _ _ _ hc]
  cases f
  · exact parse_nocut s w hs word rest hc
  · by_cases h0 : Tx.idOf s.data.toList = Tx.zero8
    · rw [if_neg (by rw [h0]; decide)]; exact parse_zero s w hs word rest hc h0
    · rw [if_pos (by rw [Bool.true_and, bne_iff_ne]; exact h0)]
      by_cases hb : word = Tx.kBlob
      · rw [if_pos hb]
        have := parse_blob s w hs word rest hb hc h0
        cases hl : Tx.line rest 40 <;> rw [hl] at this <;> exact this
      · rw [if_neg hb]
        by_cases ht : word = Tx.kTree
        · rw [if_pos ht]; exact parse_tree s w hs word rest ht hc h0
        · rw [if_neg ht]
          by_cases hk : word = Tx.kCommit
          · rw [if_pos hk]; exact parse_commit s w hs word rest hk hc h0
          · rw [if_neg hk]; exact parse_other s w hs word rest hb ht hk hc h0
end Wi
end Go.Proofs.YtmanpggemmgnnaaDoor
