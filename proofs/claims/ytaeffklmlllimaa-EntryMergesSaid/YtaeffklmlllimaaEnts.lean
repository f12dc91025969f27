/-
  A slice of entries as a list; some1.
-/
import Derived.Test.YtaeffklmlllimaaRows
import Derived.Test.YtaeffklmlllimaaAppend
import Derived.Test.YtaeffklmlllimaaTail
import Derived.Shelf.Abstract
import Derived.Shelf.RegionOpen
import Derived.WalkKit
import Derived.OwnWalkIn
import Derived.TacticsInMore
import Derived.LoopNIn
import Derived.LoopIn
import Derived.WalkMore
import Derived.ScopeJumps
import Derived.Lib.Hide
import Derived.WalkSpells
import Derived.WalkLawsBesides
import Derived.Deep.QuietTactic
import Derived.BigQuiet
import Derived.Laws.Rows
import Derived.Test.YtaeffklmlllimaaSmall
namespace Go.Proofs.Ytaeffklmlllimaa
open Go Go.RowKit Go.Shelf
attribute [local go_sem] Oper.semAt_some

/-- Where an entry lies. -/
def At4 (W : World) (b o : Nat) (e : Ent) : Prop :=
  W.cell? ⟨b, o, none⟩ = some (.int .i64 e.cur) ∧ W.cell? ⟨b, o + 1, none⟩ = some (.int .i64 e.prev) ∧ W.cell? ⟨b, o + 2, none⟩ = some (.int .i64 e.gen) ∧ W.cell? ⟨b, o + 3, none⟩ = some (.int .i64 e.tick)

/-- A slice of entries, read as a list. -/
def Se (W : World) (B : Nat) (A : Option Addr) (n c : Nat) (es : List Ent) : Prop :=
  es.length = n ∧ n ≤ c ∧ c ≤ maxLen ∧ (0 < n → ∃ b off, A = some ⟨b, off, none⟩ ∧ b < B ∧ ∀ j e, es[j]? = some e → At4 W b (off + j * 4) e)

section
variable {W W' : World} {B B' : Nat} {A : Option Addr} {n c : Nat} {es : List Ent}
theorem At4.keep {b o : Nat} {e : Ent} (h : At4 W b o e) (hk : ∀ p : Addr, p.block = b → W'.cell? p = W.cell? p) : At4 W' b o e :=
  ⟨(hk _ rfl).trans h.1, (hk _ rfl).trans h.2.1, (hk _ rfl).trans h.2.2.1, (hk _ rfl).trans h.2.2.2⟩
theorem Se.keep (h : Se W B A n c es) (hk : ∀ p : Addr, p.block < B → W'.cell? p = W.cell? p) : Se W' B A n c es :=
  ⟨h.1, h.2.1, h.2.2.1, fun hn => by
    obtain ⟨b, off, e, hb, hc⟩ := h.2.2.2 hn
    exact ⟨b, off, e, hb, fun j u hu => (hc j u hu).keep fun p hp => hk p (by omega)⟩⟩
theorem Se.more (h : Se W B A n c es) (hB : B ≤ B') : Se W B' A n c es :=
  ⟨h.1, h.2.1, h.2.2.1, fun hn => by
    obtain ⟨b, off, e, hb, hc⟩ := h.2.2.2 hn
    exact ⟨b, off, e, by omega, hc⟩⟩
theorem Se.below (h : Se W B A n c es) (hb : Below B W W') : Se W' B A n c es := h.keep fun _ hp => hb.cell hp
theorem Se.alloc (h : Se W B A n c es) (hB : B ≤ W.heap.size) (o : Obj) : Se (W.alloc o) B A n c es := h.keep fun p hp => World.cell?_alloc_lt W o p (by omega)
theorem Se.drew (h : Se W B A n c es) : Se W.drew B A n c es := h
theorem Se.drewN (h : Se W B A n c es) (k : Nat) : Se (W.drewN k) B A n c es := h
theorem Se.at_ (h : Se W B A n c es) {k : Nat} (hk : k < n) : ∃ b off e, A = some ⟨b, off, none⟩ ∧ b < B ∧ es[k]? = some e ∧ At4 W b (off + k * 4) e := by
  obtain ⟨b, off, rfl, hb, hc⟩ := h.2.2.2 (by omega)
  have hl : k < es.length := by rw [h.1]; exact hk
  exact ⟨b, off, es[k], rfl, hb, List.getElem?_eq_getElem hl, hc k _ (List.getElem?_eq_getElem hl)⟩
theorem Se.nil (W : World) (B : Nat) : Se W B none 0 0 [] := ⟨rfl, Nat.le_refl _, Nat.zero_le _, fun h => absurd h (by omega)⟩
theorem Se.n63 (h : Se W B A n c es) : n ≤ 9223372036854775807 := by have h1 := h.2.1; have h2 := h.2.2.1; unfold maxLen at h2; omega
theorem Se.take (h : Se W B A n c es) {k : Nat} (hk : k ≤ n) : Se W B A k c (es.take k) :=
  ⟨by rw [List.length_take, h.1]; omega, by have := h.2.1; omega, h.2.2.1, fun hk0 => by
    obtain ⟨b, off, e, hb, hc⟩ := h.2.2.2 (by omega)
    exact ⟨b, off, e, hb, fun j u hu => hc j u (by
      rw [List.getElem?_take] at hu
      split at hu
      · exact hu
      · cases hu)⟩⟩
end

set_option maxHeartbeats 1000000 in
theorem some1_any (A : Option Addr) (n c B : Nat) (es : List Ent) (w : World) (hs : Se w B A n c es) (hBw : B ≤ w.heap.size) :
    Calls Try.prog 21 #[.slice A n c] w fun e W' => e = .returned (.bool (es.any rightB)) ∧ Below B w W' := by
  have hlen : es.length = n := hs.1
  have hn63 := hs.n63
  have HL := hide hlen
  clear hlen
  go_enter Try.func21, Try.ntmps21
  go_wp2
  go_loopw [3] (fun i wr => ∃ k : Nat, k ≤ n ∧ i = .int .i64 k ∧ (es.take k).any rightB = false ∧ Below w.heap.size w wr) (fun i _ => n - (intOf i).toNat)
  case atStart => exact ⟨0, Nat.zero_le _, rfl, rfl, Below.refl _ _⟩
  case round =>
    obtain ⟨k, hk, rfl, hno, hB⟩ := hrel
    have HN := hide hno
    clear hno
    by_cases hlt : k < n
    · obtain ⟨b, off, x, rfl, hb, hx, c0, c1, c2, c3⟩ := (hs.below (hB.mono hBw)).at_ hlt
      have HX := hide hx
      clear hx
      go_wp2_with fail
      refine (refRight_any _ _).mono ?_
      rintro e w2 ⟨rfl, hB2⟩
      have hB3 := hB.trans (hB2.mono hB.size)
      have HT := hide (show (es.take (k + 1)).any rightB = ((es.take k).any rightB || rightB x) from by rw [List.take_add_one, HX.out]; simp)
      cases hr : rightB x
      · go_wp2
        go_roundw
        case rel => exact ⟨k + 1, by omega, by go_num, by rw [HT.out, HN.out, hr]; rfl, hB3⟩
        case measure => simp [intOf]; omega
      · go_wp2
        go_ret
        exact ⟨ret_bool (by symm; rw [List.any_eq_true]; exact ⟨x, List.mem_of_getElem? HX.out, hr⟩), hB3.mono hBw⟩
    · obtain rfl : k = n := by omega
      go_wp2
      go_ret
      refine ⟨ret_bool (by rw [← HN.out, List.take_of_length_le (by rw [HL.out]; omega)]), hB.mono hBw⟩
end Go.Proofs.Ytaeffklmlllimaa
