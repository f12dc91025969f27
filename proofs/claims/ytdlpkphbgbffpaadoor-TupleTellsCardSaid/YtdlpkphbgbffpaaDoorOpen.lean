/-
  A slice of numbers that came in, as the proof's shell opens it, reads as a list of natural numbers.
-/
import Derived.Test.YtdlpkphbgbffpaaDoorSlices
import Derived.OpenShut
namespace Go.Proofs.YtdlpkphbgbffpaaDoor
open Go Go.RowKit

theorem addr_of_cell {w : World} {x : Addr} {v : Value} (h : w.cell? x = some v) : x = ⟨x.block, x.off, none⟩ ∧ x.block < w.heap.size := by
  obtain ⟨b, o, s⟩ := x
  unfold World.cell? at h
  split at h
  · rename_i hb
    split at h
    · cases h
    · rename_i hs
      simp at hs
      subst hs
      exact ⟨rfl, (Array.getElem?_eq_some_iff.1 hb).1⟩
  · cases h

theorem sl_open {k : IntKind} {w : World} {a : Option Addr} {len cap : Nat} {zs : List Int} (hk : ∀ n : Int, (Lit.int k n).wf = true → 0 ≤ n)
    (h : (a = none ∧ len = 0 ∧ cap = 0 ∧ zs = []) ∨
      ∃ x, a = some x ∧ len ≤ cap ∧ cap ≤ maxLen ∧ zs.length = cap ∧ (∀ i, i < zs.length → w.cell? (x.add i) = some (.int k (zs.getD i 0))) ∧ ∀ n ∈ zs, (Lit.int k n).wf = true) :
    ∃ ns : List Nat, Sl w w.heap.size a len cap (ns.map fun n : Nat => Value.int k (n : Int)) ∧ ∀ n ∈ ns, (Lit.int k (n : Int)).wf = true := by
  rcases h with ⟨rfl, rfl, rfl, rfl⟩ | ⟨x, rfl, hlc, hcm, hzl, hc, hw⟩
  · exact ⟨[], Sl.nil _ _, fun n hn => by cases hn⟩
  · refine ⟨(zs.take len).map Int.toNat, ⟨by simp; omega, hlc, hcm, fun hl => ?_⟩, fun n hn => ?_⟩
    · have h0 := hc 0 (by omega)
      obtain ⟨e, hb⟩ := addr_of_cell (x := x) (v := .int k (zs.getD 0 0)) (by simpa [Addr.add] using h0)
      refine ⟨x.block, x.off, by rw [← e], hb, fun j u hu => ?_⟩
      simp only [List.getElem?_map, Option.map_map, Option.map_eq_some_iff] at hu
      obtain ⟨z, hz, rfl⟩ := hu
      have hjl : j < len := by
        have := (List.getElem?_eq_some_iff.1 hz).1
        simp at this
        omega
      have hz' : zs[j]? = some z := by rw [List.getElem?_take_of_lt hjl] at hz; exact hz
      have hcj := hc j (by omega)
      have e2 : x.add j = ⟨x.block, x.off + j, none⟩ := by
        rw [e]
        unfold Addr.add
        split
        · rename_i h0; subst h0; rfl
        · rfl
      rw [e2] at hcj
      rw [hcj]
      have hzw := hw z (List.mem_of_getElem? hz')
      have hz0 := hk z hzw
      simp only [List.getD_eq_getElem?_getD, hz', Option.getD_some, Function.comp]
      rw [Int.toNat_of_nonneg hz0]
    · simp only [List.mem_map] at hn
      obtain ⟨z, hz, rfl⟩ := hn
      have hzw := hw z (List.mem_of_mem_take hz)
      rw [Int.toNat_of_nonneg (hk z hzw)]
      exact hzw

end Go.Proofs.YtdlpkphbgbffpaaDoor
