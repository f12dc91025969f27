/-
  A slice of tuples as a list.
-/
import Derived.Test.YtdlpkphbgbffpaaDoorCmp
namespace Go.Proofs.YtdlpkphbgbffpaaDoor
open Go Go.RowKit Go.Shelf
attribute [local go_sem] Oper.semAt_some

/-- A tuple's numbers are in their ranges. -/
def Tup.In (t : Tup) : Prop := (0 ≤ t.src ∧ t.src < 4294967296) ∧ (0 ≤ t.dst ∧ t.dst < 4294967296) ∧ (0 ≤ t.sp ∧ t.sp < 65536) ∧ (0 ≤ t.dp ∧ t.dp < 65536)
/-- Where a tuple lies. -/
def At4 (W : World) (b o : Nat) (e : Tup) : Prop :=
  W.cell? ⟨b, o, none⟩ = some (.int .u32 e.src) ∧ W.cell? ⟨b, o + 1, none⟩ = some (.int .u32 e.dst) ∧ W.cell? ⟨b, o + 2, none⟩ = some (.int .u16 e.sp) ∧ W.cell? ⟨b, o + 3, none⟩ = some (.int .u16 e.dp)

/-- A slice of tuples, read as a list. -/
def Ts (W : World) (B : Nat) (A : Option Addr) (n c : Nat) (es : List Tup) : Prop :=
  es.length = n ∧ n ≤ c ∧ c ≤ maxLen ∧ (0 < n → ∃ b off, A = some ⟨b, off, none⟩ ∧ b < B ∧ ∀ j e, es[j]? = some e → At4 W b (off + j * 4) e)

section
variable {W W' : World} {B B' : Nat} {A : Option Addr} {n c : Nat} {es : List Tup}
theorem At4.keep {b o : Nat} {e : Tup} (h : At4 W b o e) (hk : ∀ p : Addr, p.block = b → W'.cell? p = W.cell? p) : At4 W' b o e :=
  ⟨(hk _ rfl).trans h.1, (hk _ rfl).trans h.2.1, (hk _ rfl).trans h.2.2.1, (hk _ rfl).trans h.2.2.2⟩
theorem Ts.keep (h : Ts W B A n c es) (hk : ∀ p : Addr, p.block < B → W'.cell? p = W.cell? p) : Ts W' B A n c es :=
  ⟨h.1, h.2.1, h.2.2.1, fun hn => by
    obtain ⟨b, off, e, hb, hc⟩ := h.2.2.2 hn
    exact ⟨b, off, e, hb, fun j u hu => (hc j u hu).keep fun p hp => hk p (by omega)⟩⟩
theorem Ts.more (h : Ts W B A n c es) (hB : B ≤ B') : Ts W B' A n c es :=
  ⟨h.1, h.2.1, h.2.2.1, fun hn => by
    obtain ⟨b, off, e, hb, hc⟩ := h.2.2.2 hn
    exact ⟨b, off, e, by omega, hc⟩⟩
theorem Ts.below (h : Ts W B A n c es) (hb : Below B W W') : Ts W' B A n c es := h.keep fun _ hp => hb.cell hp
theorem Ts.alloc (h : Ts W B A n c es) (hB : B ≤ W.heap.size) (o : Obj) : Ts (W.alloc o) B A n c es := h.keep fun p hp => World.cell?_alloc_lt W o p (by omega)
theorem Ts.drew (h : Ts W B A n c es) : Ts W.drew B A n c es := h
theorem Ts.drewN (h : Ts W B A n c es) (k : Nat) : Ts (W.drewN k) B A n c es := h
theorem Ts.at_ (h : Ts W B A n c es) {k : Nat} (hk : k < n) : ∃ b off e, A = some ⟨b, off, none⟩ ∧ b < B ∧ es[k]? = some e ∧ At4 W b (off + k * 4) e := by
  obtain ⟨b, off, rfl, hb, hc⟩ := h.2.2.2 (by omega)
  have hl : k < es.length := by rw [h.1]; exact hk
  exact ⟨b, off, es[k], rfl, hb, List.getElem?_eq_getElem hl, hc k _ (List.getElem?_eq_getElem hl)⟩
theorem Ts.nil (W : World) (B : Nat) : Ts W B none 0 0 [] := ⟨rfl, Nat.le_refl _, Nat.zero_le _, fun h => absurd h (by omega)⟩
theorem Ts.n63 (h : Ts W B A n c es) : n ≤ 9223372036854775807 := by have h1 := h.2.1; have h2 := h.2.2.1; unfold maxLen at h2; omega
theorem Ts.take (h : Ts W B A n c es) {k : Nat} (hk : k ≤ n) : Ts W B A k c (es.take k) :=
  ⟨by rw [List.length_take, h.1]; omega, by have := h.2.1; omega, h.2.2.1, fun hk0 => by
    obtain ⟨b, off, e, hb, hc⟩ := h.2.2.2 (by omega)
    exact ⟨b, off, e, hb, fun j u hu => hc j u (by
      rw [List.getElem?_take] at hu
      split at hu
      · exact hu
      · cases hu)⟩⟩
end

/-- The cells of tuples, one behind the other. -/
def encT (t : Tup) : List Value := [.int .u32 t.src, .int .u32 t.dst, .int .u16 t.sp, .int .u16 t.dp]
theorem At4.cells {W : World} {b o : Nat} {e : Tup} (h : At4 W b o e) {i : Nat} {u : Value} (hu : (encT e)[i]? = some u) : W.cell? ⟨b, o + i, none⟩ = some u := by
  rcases i with _ | _ | _ | _ | i
  · cases hu; exact h.1
  · cases hu; exact h.2.1
  · cases hu; exact h.2.2.1
  · cases hu; exact h.2.2.2
  · simp [encT] at hu
theorem At4.of {W : World} {b o : Nat} {e : Tup} (h : ∀ i u, (encT e)[i]? = some u → W.cell? ⟨b, o + i, none⟩ = some u) : At4 W b o e :=
  ⟨h 0 _ rfl, h 1 _ rfl, h 2 _ rfl, h 3 _ rfl⟩
theorem flat_at : ∀ (ts : List Tup) (j : Nat), (ts.flatMap encT)[j]? = (ts[j / 4]?).bind (fun t => (encT t)[j % 4]?)
  | [], j => by simp
  | t :: ts, j => by
    rw [List.flatMap_cons]
    by_cases h : j < 4
    · rw [List.getElem?_append_left (by simpa [encT] using h), Nat.div_eq_of_lt h, Nat.mod_eq_of_lt h]
      rfl
    · rw [List.getElem?_append_right (by simp [encT]; omega), show (encT t).length = 4 from rfl, flat_at ts (j - 4), show j / 4 = (j - 4) / 4 + 1 by omega, show j % 4 = (j - 4) % 4 by omega, List.getElem?_cons_succ]
theorem flat_length (ts : List Tup) : (ts.flatMap encT).length = ts.length * 4 := by
  induction ts with
  | nil => rfl
  | cons t ts ih => rw [List.flatMap_cons, List.length_append, ih]; simp [encT]; omega
/-- The cells that a slice of tuples shows. -/
theorem Ts.flat {W : World} {B n c b off : Nat} {ts : List Tup} (h : Ts W B (some ⟨b, off, none⟩) n c ts) (j : Nat) (u : Value) (hu : (ts.flatMap encT)[j]? = some u) : W.cell? ⟨b, off + j, none⟩ = some u := by
  rw [flat_at] at hu
  obtain ⟨t, ht, hu⟩ := Option.bind_eq_some_iff.1 hu
  have hn : 0 < n := by
    have := (List.getElem?_eq_some_iff.1 ht).1
    have := h.1
    omega
  obtain ⟨b', off', e, _, hc⟩ := h.2.2.2 hn
  cases e
  have := (hc _ _ ht).cells hu
  rwa [show off + j / 4 * 4 + j % 4 = off + j by omega] at this
end Go.Proofs.YtdlpkphbgbffpaaDoor
