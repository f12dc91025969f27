/-
  What came in, opened; the library's table that the rows lay.
-/
import Derived.Test.YtdlpkphbgbffpaaDoorTups
import Derived.Test.YtdlpkphbgbffpaaDoorTakes
import Derived.Test.YtdlpkphbgbffpaaDoorEnd
import Derived.Test.YtdlpkphbgbffpaaDoorOpen
import Derived.Deep.Slices
import Derived.Deep.Fields
import Derived.ChangeSame
import Derived.Lib.SmallJoins
import Derived.Deep.DeepLaidRun
import Derived.Stop.LaidErr
import Derived.Lib.LaidTab
namespace Go.Proofs.YtdlpkphbgbffpaaDoor
set_option maxRecDepth 100000
open Go Go.RowKit Go.ChangeShapes Go.WideShapes Go.Deep Go.Joins
theorem wf32 {n : Int} (h : (Lit.int .u32 n).wf = true) : 0 ≤ n ∧ n < 4294967296 := by
  simp [Lit.wf, IntKind.min, IntKind.max, IntKind.bits, IntKind.signed] at h; omega
theorem wf16 {n : Int} (h : (Lit.int .u16 n).wf = true) : 0 ≤ n ∧ n < 65536 := by
  simp [Lit.wf, IntKind.min, IntKind.max, IntKind.bits, IntKind.signed] at h; omega
theorem wf8 {n : Int} (h : (Lit.int .u8 n).wf = true) : 0 ≤ n ∧ n < 256 := by
  simp [Lit.wf, IntKind.min, IntKind.max, IntKind.bits, IntKind.signed] at h; omega
section
variable {H : Type} {enc : TypeId × Value → H} {w : World} {base : Nat} {spare : Nat → Bool} {held : Bool}
/-- A tuple that came in by value. -/
theorem open_tup {r : Reach} {b0 : Nat} {v : Value} {d : DataW H} {p : List MemPlace} (hv : Value.okWide Tryd.prog w r b0 25 v) (h : DataW.Trod enc Tryd.prog w base spare held 25 v d p) : ∃ t : Tup, v = tv t ∧ t.In := by
  obtain ⟨v0, v1, v2, v3, y0, y1, y2, y3, n, rfl, _, _, t0, t1, t2, t3⟩ := open_agg4 Tryd.underlying25 (by kernel_rfl) (by kernel_rfl) hv h
  obtain ⟨a, ha, _, wa⟩ := DataW.trod_int Tryd.underlying22 t0
  obtain ⟨b, hb, _, wb⟩ := DataW.trod_int Tryd.underlying22 t1
  obtain ⟨c, hc, _, wc⟩ := DataW.trod_int Tryd.underlying23 t2
  obtain ⟨d, hd, _, wd⟩ := DataW.trod_int Tryd.underlying23 t3
  simp only [List.cons.injEq, and_true] at ha hb hc hd
  subst ha hb hc hd
  exact ⟨⟨a, b, c, d⟩, rfl, wf32 wa, wf32 wb, wf16 wc, wf16 wd⟩
theorem list_of {α : Type} (P : Nat → α → Prop) : ∀ n : Nat, (∀ i, i < n → ∃ e, P i e) → ∃ es : List α, es.length = n ∧ ∀ (j : Nat) (e : α), es[j]? = some e → P j e
  | 0, _ => ⟨[], rfl, fun j e h => by simp at h⟩
  | n + 1, h => by
    obtain ⟨es, hl, hp⟩ := list_of P n (fun i hi => h i (by omega))
    obtain ⟨x, hx⟩ := h n (by omega)
    refine ⟨es ++ [x], by simp [hl], fun j e hj => ?_⟩
    rcases Nat.lt_or_ge j n with hlt | hge
    · rw [List.getElem?_append_left (by omega)] at hj
      exact hp j e hj
    · have hjl := (List.getElem?_eq_some_iff.1 hj).1
      simp only [List.length_append, List.length_cons, List.length_nil, hl] at hjl
      obtain rfl : j = n := by omega
      rw [List.getElem?_append_right (by omega)] at hj
      simp only [hl, Nat.sub_self, List.getElem?_cons_zero, Option.some.injEq] at hj
      subst hj
      exact hx
/-- A slice of tuples that came in. -/
theorem open_tups {fuel : Nat} {a0 : Option Addr} {len cap : Nat} {x : DataW H × List MemPlace} (h : DataW.trod enc Tryd.prog w base spare held fuel 27 [.slice a0 len cap] = some x) : ∃ ts : List Tup, Ts w w.heap.size a0 len cap ts ∧ ∀ t ∈ ts, t.In := by
  rcases open_slice Tryd.underlying27 h with ⟨hcs, _⟩ | ⟨a, l, c, m, n, D, Pl, hcs, _, hl, hm, hmm, _, hi⟩
  · simp only [List.cons.injEq, and_true, Value.slice.injEq] at hcs
    obtain ⟨rfl, rfl, rfl⟩ := hcs
    exact ⟨[], Ts.nil _ _, fun t h => by cases h⟩
  · simp only [List.cons.injEq, and_true, Value.slice.injEq] at hcs
    obtain ⟨rfl, rfl, rfl⟩ := hcs
    have hC : Tryd.prog.cellsOf 25 = 4 := by kernel_rfl
    have hlm : len ≤ m := by rw [hmm]; split <;> omega
    have key : ∀ i, i < len → ∃ e : Tup, e.In ∧ ∀ j, j < 4 → w.cell? ((a.add (i * 4)).add j) = (encT e)[j]? := by
      intro i hil
      obtain ⟨cs', hc, ht⟩ := hi i (by omega)
      rw [hC] at hc
      obtain ⟨_, hcl, hat⟩ := World.cells?_some hc
      match cs', hcl with
      | [c0, c1, c2, c3], _ =>
        obtain ⟨y0, y1, y2, y3, n', _, _, t0, t1, t2, t3⟩ := trod_struct4 Tryd.underlying25 ht
        have h22 : Tryd.prog.cellsOf 22 = 1 := by kernel_rfl
        have h23 : Tryd.prog.cellsOf 23 = 1 := by kernel_rfl
        simp only [h22, h23, List.drop_zero, List.drop_succ_cons, List.take_succ_cons, List.take_zero] at t0 t1 t2 t3
        obtain ⟨p, hp, _, wp⟩ := DataW.trod_int Tryd.underlying22 t0
        obtain ⟨q, hq, _, wq⟩ := DataW.trod_int Tryd.underlying22 t1
        obtain ⟨r, hr, _, wr⟩ := DataW.trod_int Tryd.underlying23 t2
        obtain ⟨s, hs, _, ws⟩ := DataW.trod_int Tryd.underlying23 t3
        simp only [List.cons.injEq, and_true] at hp hq hr hs
        subst hp hq hr hs
        exact ⟨⟨p, q, r, s⟩, ⟨wf32 wp, wf32 wq, wf16 wr, wf16 ws⟩, fun j hj => hat j (by simpa using hj)⟩
    obtain ⟨es, hel, hes⟩ := list_of _ len key
    refine ⟨es, ⟨hel, hl, hm, fun hn => ?_⟩, fun t ht => ?_⟩
    · obtain ⟨e0, _, he0⟩ := key 0 hn
      have hc0 := he0 0 (by omega)
      rw [Nat.zero_mul] at hc0
      obtain ⟨ha, hb⟩ := addr_of_cell (x := a) (v := .int .u32 e0.src) (by simpa [Addr.add, encT] using hc0)
      have hadd : ∀ i j : Nat, (a.add i).add j = ⟨a.block, a.off + i + j, none⟩ := by
        intro i j
        rw [ha]
        unfold Addr.add
        by_cases hi : i = 0 <;> by_cases hj : j = 0 <;> simp [hi, hj]
      refine ⟨a.block, a.off, by rw [← ha], hb, fun j e he => ?_⟩
      have hk := (hes j e he).2
      refine At4.of fun i u hu => ?_
      have hi4 : i < 4 := (List.getElem?_eq_some_iff.1 hu).1
      have := hk i hi4
      rw [hadd, hu] at this
      exact this
    · obtain ⟨j, hj⟩ := List.mem_iff_getElem?.1 ht
      exact (hes j t hj).1
/-- A slice of bytes that came in. -/
theorem open_row {fuel : Nat} {a0 : Option Addr} {len cap : Nat} {x : DataW H × List MemPlace} (h : DataW.trod enc Tryd.prog w base spare held fuel 26 [.slice a0 len cap] = some x) : ∃ bs : List Int, Sl w w.heap.size a0 len cap (bs.map vb) ∧ isB8 bs := by
  rcases open_slice Tryd.underlying26 h with ⟨hcs, _⟩ | ⟨a, l, c, m, n, D, Pl, hcs, _, hl, hm, hmm, _, hi⟩
  · simp only [List.cons.injEq, and_true, Value.slice.injEq] at hcs
    obtain ⟨rfl, rfl, rfl⟩ := hcs
    exact ⟨[], Sl.nil _ _, fun t h => by cases h⟩
  · simp only [List.cons.injEq, and_true, Value.slice.injEq] at hcs
    obtain ⟨rfl, rfl, rfl⟩ := hcs
    have hC : Tryd.prog.cellsOf 5 = 1 := by kernel_rfl
    have hlm : len ≤ m := by rw [hmm]; split <;> omega
    have key : ∀ i, i < len → ∃ e : Int, (0 ≤ e ∧ e < 256) ∧ w.cell? (a.add i) = some (vb e) := by
      intro i hil
      obtain ⟨cs', hc, ht⟩ := hi i (by omega)
      rw [hC] at hc
      obtain ⟨_, hcl, hat⟩ := World.cells?_some hc
      match cs', hcl with
      | [c0], _ =>
        obtain ⟨p, hp, _, wp⟩ := DataW.trod_int Tryd.underlying5 ht
        simp only [List.cons.injEq, and_true] at hp
        subst hp
        have := hat 0 (by simp)
        rw [Nat.mul_one] at this
        exact ⟨p, wf8 wp, by simpa [Addr.add] using this⟩
    obtain ⟨es, hel, hes⟩ := list_of _ len key
    refine ⟨es, ⟨by simpa using hel, hl, hm, fun hn => ?_⟩, fun t ht => ?_⟩
    · obtain ⟨e0, _, he0⟩ := key 0 hn
      obtain ⟨ha, hb⟩ := addr_of_cell (x := a) (v := vb e0) (by simpa [Addr.add] using he0)
      refine ⟨a.block, a.off, by rw [← ha], hb, fun j u hu => ?_⟩
      obtain ⟨e, he, rfl⟩ := by simpa using hu
      have hk := (hes j e he).2
      have hadd : a.add j = ⟨a.block, a.off + j, none⟩ := by
        rw [ha]
        unfold Addr.add
        by_cases hj : j = 0 <;> simp [hj]
      rwa [hadd] at hk
    · obtain ⟨j, hj⟩ := List.mem_iff_getElem?.1 ht
      exact (hes j t hj).1
end
/-! ### The tables -/
theorem own : ownKnob Tryd.prog.godebug = none := by kernel_rfl
theorem laidOut : laidOutB Tryd.prog = true := by kernel_rfl
abbrev laidL : List (String × DataW Unit) := [("math/bits.deBruijn32tab", Rows.laid_math_bits_deBruijn32tab), ("math/bits.deBruijn64tab", Rows.laid_math_bits_deBruijn64tab), ("internal/strconv.uint64pow10", Rows.laid_internal_strconv_uint64pow10)]
def ints (k : IntKind) (d : DataW Unit) : Array Value := match d with
  | .agg l => (l.map fun x => match x with | .lit (.int _ z) => Value.int k z | _ => Value.int k 0).toArray
  | _ => #[]
/-- The settled world, the three tables holding what their initialisers lay. -/
noncomputable def laidWorld (os : Os) : World :=
  let w0 := World.holding Tryd.prog os ⟨#[], #[], []⟩
  let put (h : Array Obj) (g : Nat) (cs : Array Value) : Array Obj := h.modify g fun
    | .cells _ t frozen => .cells cs t frozen
    | o => o
  { w0 with heap := put (put (put w0.heap 0 (ints .u64 Rows.laid_internal_strconv_uint64pow10)) 1 (ints .u8 Rows.laid_math_bits_deBruijn32tab)) 2 (ints .u8 Rows.laid_math_bits_deBruijn64tab) }
theorem laid_met (os : Os) (args : Array Value) : laidMet Tryd.prog laidL ((laidWorld os).forCall (fun _ _ => 0) ⟨#[], args, []⟩).memory :=
  laidMet_of_run3 10 (by kernel_rfl) (by kernel_rfl) (by kernel_rfl)
theorem gName : Tryd.prog.globalNamed "internal/strconv.uint64pow10" = some 0 := by kernel_rfl
theorem gType : (Tryd.prog.globals[0]?).map (·.type) = some 104 := by kernel_rfl
theorem tab_of_laid {W : World} (h : laidMet Tryd.prog laidL W) : Tab W.heap.size W := by
  refine Lib.tabBelow_of_tabIs (Lib.tabIs_of_head (rest := []) gName gType Tryd.underlying104 Tryd.underlying64 (by kernel_rfl) (by kernel_rfl) ?_)
  exact h.tail.tail
end Go.Proofs.YtdlpkphbgbffpaaDoor
