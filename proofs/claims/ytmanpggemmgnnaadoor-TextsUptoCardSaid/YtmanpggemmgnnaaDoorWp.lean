/-
  THE CARD of Texts, second form (TextsUptoCardSaid): whatever the list of orders, where what it reads is of bulk at most 1048576, the law Texts answers true and the list reads behind the call as before. Conditions: the three listed tables hold what the program's text lays (tied).
-/
import Derived.Test.YtmanpggemmgnnaaDoorWo
import Derived.Test.YtmanpggemmgnnaaDoorCards
import Derived.Test.YtmanpggemmgnnaaDoorTie
import Derived.WalkKit
import Derived.ProofKit
import Derived.OpenShut
import Derived.Carry
import Derived.Deep.DeepHandedRow
import Derived.Lib.LaidTab
import Derived.Lib.SmallJoins
import Derived.Stop.LaidErr
namespace Go.Proofs.YtmanpggemmgnnaaDoor
open Go Go.RowKit Go.Shelf Ba Num Fr
namespace Wp
open Wn Wo
open Go.ChangeShapes Go.WideShapes Go.ChangeAt Go.Deep
theorem own : ownKnob Tryd.prog.godebug = none := by kernel_rfl
theorem laidOut : laidOutB Tryd.prog = true := by kernel_rfl
theorem cells24 : Tryd.prog.cellsOf 24 = 4 := by kernel_rfl
theorem cells3 : Tryd.prog.cellsOf 3 = 1 := by kernel_rfl
theorem cells9 : Tryd.prog.cellsOf 9 = 1 := by kernel_rfl
theorem gTab : Tryd.prog.globalNamed "math/bits.deBruijn64tab" = some 3 := by kernel_rfl
/-- A part's bulk is at most the whole's. -/
theorem part_le {H : Type} {d : DataW H} : ∀ {l : List (DataW H)}, d ∈ l → Rows.uptoBulk d ≤ Rows.uptoBulkAll l
  | x :: r, h => by
    simp only [Rows.uptoBulkAll]
    cases List.mem_cons.1 h with
    | inl e => subst e; omega
    | inr e => have := part_le e; omega
theorem one_le {H : Type} (d : DataW H) : 1 ≤ Rows.uptoBulk d := by
  cases d with
  | lit l => cases l <;> simp [Rows.uptoBulk]
  | nil => simp [Rows.uptoBulk]
  | ptr d => simp [Rows.uptoBulk]
  | slice elems spare => simp [Rows.uptoBulk]
  | agg parts => simp [Rows.uptoBulk]
  | iface t d => simp [Rows.uptoBulk]
  | map entries => simp [Rows.uptoBulk]
  | held h => simp [Rows.uptoBulk]
theorem length_le {H : Type} : ∀ (l : List (DataW H)), l.length ≤ Rows.uptoBulkAll l
  | [] => by simp [Rows.uptoBulkAll]
  | x :: r => by have := one_le x; have := length_le r; simp only [Rows.uptoBulkAll, List.length_cons]; omega
set_option maxRecDepth 100000 in
/-- What the argument's reading and the bound give: nil, an empty list, or a list as the walk asks. -/
theorem opened {H : Type} {enc : TypeId × Value → H} {W : World} {v : Value} {d : DataW H} {p : List MemPlace} (hv : ∃ a n c, v = .slice a n c)
    (h : DataW.Trod enc Tryd.prog W 0 (fun _ => true) true 22 v d p) (hk : Rows.uptoBulk d ≤ 1048576) :
    (∃ a c, v = .slice a 0 c) ∨ ∃ g off n c, v = .slice (some ⟨g, off, none⟩) n c ∧ n ≤ 1048576 ∧ g < W.heap.size ∧ Ops W g off n := by
  obtain ⟨a0, n, c, rfl⟩ := hv
  obtain ⟨fuel, hf⟩ := h
  rcases open_slice Tryd.underlying22 hf with ⟨h1, _⟩ | ⟨a, len, cap, m, q, D, Pl, h1, _, hl, hm, hmm, hx, hc⟩
  · left
    simp [Value.cells] at h1
    exact ⟨_, _, by rw [h1.2.1]⟩
  have h1 : Value.slice a0 n c = Value.slice (some a) len cap := by simpa [Value.cells] using h1
  cases h1
  by_cases hn : n = 0
  · left; subst hn; exact ⟨_, _, rfl⟩
  right
  have hd : d = _ := congrArg Prod.fst hx
  simp only at hd
  subst hd
  simp only [Rows.uptoBulk] at hk
  have hnl : n ≤ 1048576 := by
    have := length_le ((List.range n).map D)
    simp at this; omega
  have hel : ∀ i, i < n → Rows.uptoBulk (D i) ≤ 1048576 := fun i hi => by
    have := part_le (d := D i) (l := (List.range n).map D) (List.mem_map.2 ⟨i, List.mem_range.2 hi, rfl⟩)
    omega
  simp only [if_true] at hmm
  have each : ∀ i, i < n → (∃ k : Int, W.cell? (a.add (i * 4)) = some (.int .i64 k)) ∧ ∃ s : ByteArray, W.cell? (a.add (i * 4 + 3)) = some (.string s) ∧ s.size < 16777216 := by
    intro i hi
    obtain ⟨cs', g1, g2⟩ := hc i (by omega)
    rw [cells24] at g1
    obtain ⟨_, hlen, hcell⟩ := World.cells?_some g1
    obtain ⟨y0, y1, y2, y3, n', hxx, _, f0, _, _, f3⟩ := Go.Joins.trod_struct4 Tryd.underlying24 g2
    rw [cells3] at f0
    rw [cells9] at f3
    obtain ⟨k, hk0, _⟩ := DataW.trod_int Tryd.underlying3 f0
    obtain ⟨s, hs, hy, _⟩ := DataW.trod_string Tryd.underlying9 f3
    match cs', hlen with
    | [b0, b1, b2, b3], _ =>
      simp at hk0 hs
      subst hk0; subst hs
      have e0 := hcell 0 (by omega)
      have e3 := hcell 3 (by omega)
      rw [add_add] at e0 e3
      refine ⟨⟨k, by simpa using e0⟩, s, by simpa using e3, ?_⟩
      have hb := hel i hi
      have hD : D i = _ := congrArg Prod.fst hxx
      simp only at hD
      rw [hD, hy] at hb
      simp only [Rows.uptoBulk, Rows.uptoBulkAll] at hb
      have : s.data.toList.length = s.size := size_len s
      omega
  obtain ⟨g, off, spot⟩ := a
  have e0 := (each 0 (by omega)).1
  obtain ⟨k0, e0⟩ := e0
  have hspot : spot = none := by simpa [Addr.add] using World.cell?_spot e0
  subst hspot
  refine ⟨g, off, n, _, rfl, hnl, ?_, ?_, ?_⟩
  · have := World.block_lt_of_cell? W _ e0
    simpa [add_plain] using this
  · intro i hi; obtain ⟨k, hk⟩ := (each i hi).1; exact ⟨k, by rw [add_plain] at hk; exact hk⟩
  · intro i hi; obtain ⟨s, hs, h2⟩ := (each i hi).2; exact ⟨s, by rw [add_plain] at hs; exact hs, h2⟩
def tab32 : List Int := [0, 1, 28, 2, 29, 14, 24, 3, 30, 22, 20, 15, 25, 17, 4, 8, 31, 27, 13, 23, 21, 19, 16, 7, 26, 12, 18, 6, 11, 5, 10, 9]
def tab10 : List Int := [1, 10, 100, 1000, 10000, 100000, 1000000, 10000000, 100000000, 1000000000, 10000000000, 100000000000, 1000000000000, 10000000000000, 100000000000000, 1000000000000000, 10000000000000000, 100000000000000000, 1000000000000000000, 10000000000000000000]
def tab64 : List Int := [0, 1, 56, 2, 57, 49, 28, 3, 61, 58, 42, 50, 38, 29, 17, 4, 62, 47, 59, 36, 45, 43, 51, 22, 53, 39, 33, 30, 24, 18, 12, 5, 63, 55, 48, 27, 60, 41, 37, 16, 46, 35, 44, 21, 52, 32, 23, 11, 54, 26, 40, 15, 34, 20, 31, 10, 25, 14, 19, 9, 13, 8, 7, 6]
/-- What the row's list gives: the cell that the packet's reader looks at. -/
theorem table {W : World} (h : laidMetH Tryd.prog Rows.textsUptoRow.laid W) : W.cell? ⟨3, 15, none⟩ = some (.int .u8 4) := by
  have h : laidMet Tryd.prog [("math/bits.deBruijn32tab", Rows.laid_math_bits_deBruijn32tab), ("math/bits.deBruijn64tab", Rows.laid_math_bits_deBruijn64tab), ("internal/strconv.uint64pow10", Rows.laid_internal_strconv_uint64pow10)] W := h
  have hT : Lib.TabIs Tryd.prog W "math/bits.deBruijn64tab" .u8 tab64 :=
    Lib.tabIs_of_head (rest := [("internal/strconv.uint64pow10", Rows.laid_internal_strconv_uint64pow10)]) (t := 102) (e := 5) (n := 64) gTab (by kernel_rfl) Tryd.underlying102 Tryd.underlying5 (by kernel_rfl) (by kernel_rfl) (laidMet.tail h)
  exact hT.cell gTab 15 (by decide)
set_option maxRecDepth 100000 in
/-- What the walk gives, for every list and every world. -/
theorem contract (H : Type) (enc : TypeId × Value → H) (W : World) (base : Nat) (args : Array Value) (ds gs : List (DataW H)) (before : List MemPlace)
    (hval : ∀ (j : Nat) t v, Tryd.f3.params[j]? = some t → args[j]? = some v → Value.okWide Tryd.prog W .any base t v)
    (hW : DataW.Whole enc Tryd.prog Tryd.f3.params.toList Rows.textsSpec.vars false W args.toList ds gs before) (hk : Rows.uptoSmall H (ds ++ gs) = true) (hL : laidMetH Tryd.prog Rows.textsUptoRow.laid W) :
    Calls Tryd.prog 3 args W fun e W' => ∃ v, e = .returned v ∧ Rows.textsSpec.post enc Tryd.prog Tryd.f3 false true false false W args v W' := by
  have hW' := hW
  obtain ⟨p, q, hA0, hV, rfl, hfz, hnd⟩ := hW
  have hA : DataW.TrodAll enc Tryd.prog W 0 (fun _ => true) true Tryd.f3.params.toList args.toList ds p := hA0
  rw [Tryd.params3] at hA hval
  obtain ⟨v0, vs0, d0, ds0, p0, q0, hargs, rfl, rfl, h0, r0⟩ := trodAll_cons hA
  obtain ⟨rfl, rfl, rfl⟩ := trodAll_nil r0
  obtain rfl : args = #[v0] := by cases args; simp_all
  obtain ⟨rfl, rfl⟩ := trodVars_none hV
  clear hA0
  simp only [List.append_nil] at hW' hk
  have hk : Rows.uptoBulk d0 ≤ 1048576 := by
    have h : Rows.uptoBulkAll [d0] ≤ 1048576 := of_decide_eq_true hk
    simpa only [Rows.uptoBulkAll, Nat.add_zero] using h
  have hc := table hL
  have h3 : 3 < W.heap.size := World.block_lt_of_cell? W ⟨3, 15, none⟩ hc
  have walk : Calls Tryd.prog 3 #[v0] W (Yes W) := by
    rcases opened (okWide_slice Tryd.underlying22 (hval 0 22 v0 rfl rfl)) h0 hk with ⟨a, c, rfl⟩ | ⟨g, off, n, c, rfl, hn, hg, ho⟩
    · exact law_nil a c W
    · exact law_some W g off n c hn hg ho hc h3
  refine walk.mono fun e W' ⟨he, hb⟩ => ?_
  subst he
  have hlt : ∀ x ∈ p0, x.block < W.heap.size := fun x hx => by simpa using hW'.lt x (by simpa using hx)
  have hrd := Below.trod laidOut (by kernel_rfl) (of_decide_eq_true (by kernel_rfl)) h0 hb hlt
  refine ⟨_, rfl, _, _, _, [], p0, [], hW', ?_, ?_, rfl, hb.frame _, fun h => by cases h⟩
  · exact trodAll_mk1 (shut_bool Tryd.underlying4 _)
  · exact trodAll_mk1 hrd
/-- A world for the witness: the settled one, the three tables holding what their initialisers lay. -/
noncomputable def laidWorld (os : Os) : World :=
  let w0 := World.holding Tryd.prog os ⟨#[], #[], []⟩
  { w0 with heap := ((w0.heap.modify 0 fun
      | .cells _ t frozen => .cells (tab10.map fun z => Value.int .u64 z).toArray t frozen
      | o => o).modify 2 fun
      | .cells _ t frozen => .cells (tab32.map fun z => Value.int .u8 z).toArray t frozen
      | o => o).modify 3 fun
      | .cells _ t frozen => .cells (tab64.map fun z => Value.int .u8 z).toArray t frozen
      | o => o }
theorem laid_met (os : Os) : laidMet Tryd.prog Rows.textsUptoRow.laid ((laidWorld os).forCall (fun _ _ => 0) ⟨#[], #[.slice none 0 0], []⟩).memory :=
  laidMet_of_run' 8 (by kernel_rfl) (by kernel_rfl)
theorem reads (os : Os) {H : Type} (enc : TypeId × Value → H) : ∃ places, DataW.whole enc Tryd.prog ((laidWorld os).forCall (fun _ _ => 0) ⟨#[], #[.slice none 0 0], []⟩).memory Tryd.f3.params.toList Rows.textsSpec.vars false #[Value.slice none 0 0].toList 8 = some ([.nil], [], places) :=
  ⟨[], by kernel_rfl⟩
set_option maxRecDepth 100000 in
theorem lifted (os : Os) (started : os.Started) (H : Type) (enc : TypeId × Value → H) (F : Stop.Interp) :
    ReturnsInHanded {} Tryd.checked os 3 .any ((Rows.OpenSpec.upto Rows.textsSpec).preRow enc Tryd.prog Tryd.f3 Rows.textsUptoRow.domain false Rows.textsUptoRow.laid) (((Rows.OpenSpec.upto Rows.textsSpec).at F).post enc Tryd.prog Tryd.f3 false true false false) := by
  obtain ⟨places, hx⟩ := reads os enc
  refine returnsInHanded_of_row (C := Tryd.checked) (s := Rows.OpenSpec.upto Rows.textsSpec) own started (by kernel_rfl) Tryd.func3
    (witness_row_at (enc := enc) (C := Tryd.checked) false (laidWorld os) #[.slice none 0 0] rfl (by kernel_rfl) (by kernel_rfl) (by kernel_rfl)
      (OpenSpec.preRow_of_cond 8 hx (by kernel_rfl) (fun k hk => by cases hk; kernel_rfl) (by kernel_rfl) (laid_met os))) ?_
  intro W base args ds gs before hval hW _ hcond _ hL _ _
  exact contract H enc W base args ds gs before hval hW (hcond _ rfl) hL
theorem said : Rows.TextsUptoSaid :=
  OpenClaim.holds_of_cond 3 Tryd.f3 rfl rfl rfl rfl rfl rfl rfl ⟨rfl, rfl, rfl, rfl, rfl⟩ rfl rfl rfl rfl rfl (by kernel_rfl) Tryd.func3 (by kernel_rfl)
    (of_decide_eq_true (by kernel_rfl)) (by unfold Func.isWrapper; first | (rw [if_pos (by decide +kernel)]; kernel_rfl) | (rw [if_neg (by decide +kernel)]; exact ⟨rfl, rfl⟩))
    (fun os started H enc _ F => by rw [OpenClaim.pre_eq_preRow]; exact lifted os started H enc F)
/-- No parameter wants a stand-in; the program's own looks are off. -/
theorem plain (f : FuncId) (fn : Func) (hf : Tryd.pinned.checked.prog.funcNamed "refserve/refservelaw.Texts" = some f) (hfn : Tryd.pinned.checked.prog.funcs[f]? = some fn) :
    false = Tryd.pinned.checked.prog.looks [] ∧ ∀ (j : Nat) t, fn.params[j]? = some t → Tryd.pinned.checked.prog.wantsStandIn t = false := by
  obtain rfl : f = 3 := Option.some.inj ((show Tryd.prog.funcNamed "refserve/refservelaw.Texts" = some 3 by kernel_rfl).symm.trans hf) |>.symm
  obtain rfl : fn = Tryd.f3 := (Option.some.inj (Tryd.func3.symm.trans hfn)).symm
  refine ⟨by kernel_rfl, fun j t ht => ?_⟩
  rw [Tryd.params3] at ht
  obtain rfl : t = 22 := by simpa using Array.mem_of_getElem? ht
  exact (show Tryd.prog.wantsStandIn 22 = false by kernel_rfl)
/-- The card. -/
theorem card : Rows.TextsUptoCardSaid :=
  Claim7.holds_tied_plain_at .later [] _ _ _ _ said (fun _ h => by cases h) (by kernel_rfl) (fun _ h => by cases h) textsUpto_row_tie rfl ⟨rfl, rfl⟩ (by kernel_rfl) rfl plain (by kernel_rfl)
end Wp
/-- Texts, second form: the tied card. -/
theorem textsUpto_holds : Rows.TextsUptoCardSaid := Wp.card
end Go.Proofs.YtmanpggemmgnnaaDoor
