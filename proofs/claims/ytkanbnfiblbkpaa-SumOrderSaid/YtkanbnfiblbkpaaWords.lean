/-
  The walks of sum.carried, sum.words and of the iterator that sum.words hands back.
-/
import Derived.Test.YtkanbnfiblbkpaaRows
import Derived.Test.YtkanbnfiblbkpaaMath
import Derived.Test.YtkanbnfiblbkpaaSlices
import Derived.Test.YtkanbnfiblbkpaaTail
import Derived.Shelf.Abstract
import Derived.Shelf.RegionOpen
import Derived.WalkKit
import Derived.OwnWalkIn
import Derived.TacticsInMore
import Derived.LoopNIn
import Derived.LoopIn
import Derived.WalkMore
import Derived.ScopeJumps
import Derived.Lib.Hide
import Derived.WalkSpells
import Derived.WalkLawsBesides
namespace Go.Proofs.Ytkanbnfiblbkpaa
open Go Go.RowKit Go.Shelf
attribute [local go_sem] Oper.semAt_some

abbrev vb (x : Nat) : Value := .int .u8 (x : Int)
abbrev vw (x : Nat) : Value := .int .u16 (x : Int)

theorem carry_step (m : Nat) (hm : m < 4611686018427387904) (h : ((m : Int) / 65536 != 0) = true) :
    Value.int IntKind.u64 (IntKind.u64.wrap (bits BinOp.and IntKind.u64 (m : Int) 65535 + (m : Int) / 65536)) = .int .u64 ((m % 65536 + m / 65536 : Nat) : Int) ∧ can (m % 65536 + m / 65536) = can m ∧ m % 65536 + m / 65536 < m := by
  have h' : ¬ ((m : Int) / 65536 = 0) := by simpa using h
  have hb : bits BinOp.and IntKind.u64 (m : Int) 65535 = ((m &&& 65535 : Nat) : Int) := u64_and_nat m 65535 (by omega) (by omega)
  rw [hb, nat_mask16]
  refine ⟨?_, can_fold m (by omega), by omega⟩
  congr 1
  rw [IntKind.wrap_u64]
  omega

/-- What holds at every jump back of 'carried'. -/
def CarJ (n : Nat) (w : World) (a' : Act) (w' : World) : Prop :=
  w = w' ∧ ∃ (m : Nat) (u3 u4 u5 u6 u7 u8 u9 u10 : Value), a' = { tmps := #[.int .u64 m, undef, .int .u16 0, u3, u4, u5, u6, u7, u8, u9, u10, undef, undef], defers := [] } ∧ can m = can n ∧ m ≤ n

set_option maxHeartbeats 400000 in
theorem carried_any (n : Nat) (hn : n < 4611686018427387904) (w : World) :
    Calls Try.prog 15 #[.int .u64 n] w fun e w' => e = .returned (.int .u16 (can n)) ∧ w = w' := by
  go_enter Try.func15, Try.ntmps15
  go_wp2
  refine wp_scope_jumps 0 (CarJ n w) (fun a' _ => (intOf (a'.tmps.getD 0 undef)).toNat) rfl ?_ ?_
  · go_wp2
    go_step3
    go_wp2
    · have h : ((n : Int) / 65536 != 0) = true := by assumption
      have hs := carry_step n hn h
      go_step3
      rw [hs.1]
      exact ⟨rfl, rfl, n % 65536 + n / 65536, _, _, _, _, _, _, _, _, rfl, hs.2.1, by omega⟩
    · have h : ((n : Int) / 65536 != 0) = false := by assumption
      have h' : (n : Int) / 65536 = 0 := by simpa using h
      simp only [Exit.jump]
      go_ret
      exact ⟨ret_int (by rw [can_small n (by omega), IntKind.wrap_u16]; omega), rfl⟩
  · rintro a' w' ⟨rfl, m, u3, u4, u5, u6, u7, u8, u9, u10, rfl, hc, hm⟩
    have HC := Lib.hid hc
    clear hc
    go_wp2
    go_step3
    go_wp2
    · have h : ((m : Int) / 65536 != 0) = true := by assumption
      have hs := carry_step m (by omega) h
      rw [hs.1]
      exact ⟨rfl, ⟨rfl, m % 65536 + m / 65536, _, _, _, _, _, _, _, _, rfl, hs.2.1.trans HC.out, by omega⟩, by simp [intOf]; omega⟩
    · have h : ((m : Int) / 65536 != 0) = false := by assumption
      have h' : (m : Int) / 65536 = 0 := by simpa using h
      simp only [Exit.jump]
      go_ret
      exact ⟨ret_int (by rw [← HC.out, can_small m (by omega), IntKind.wrap_u16]; omega), rfl⟩

theorem words_any (A : Option Addr) (len cap : Nat) (w : World) :
    Calls Try.prog 16 #[.slice A len cap] w fun e w' => e = .returned (.func (.func 17) #[] #[.pointer (some ⟨w.heap.size, 0, none⟩)]) ∧ w' = w.alloc (.cells #[.slice A len cap] 22) := by
  go_enter Try.func16, Try.ntmps16
  go_wp2
  go_ret
  exact ⟨rfl, rfl⟩

theorem word_of (x y : Nat) (hx : x < 256) (hy : y < 256) :
    bits BinOp.or IntKind.u16 (IntKind.u16.wrap (IntKind.u16.wrap (x : Int) * 256)) (IntKind.u16.wrap (y : Int)) = ((256 * x + y : Nat) : Int) := by
  have e1 : IntKind.u16.wrap (IntKind.u16.wrap (x : Int) * 256) = ((x * 256 : Nat) : Int) := by
    rw [IntKind.wrap_u16, IntKind.wrap_u16]; omega
  have e2 : IntKind.u16.wrap (y : Int) = ((y : Nat) : Int) := by rw [IntKind.wrap_u16]; omega
  rw [e1, e2, u16_or_nat _ _ (by omega) (by omega), nat_join 8 (x * 256) y (by omega) (by omega)]
  congr 1
  omega

theorem half_of (x : Nat) : (x : Int) * 256 = ((256 * x : Nat) : Int) := by omega

theorem wordsOf_one (p : List Nat) (x : Nat) (h : p.length % 2 = 0) : wordsOf (p ++ [x]) = wordsOf p ++ [256 * x] := by
  match p, h with
  | [], _ => rfl
  | [_], h => simp at h
  | a :: b :: s, h =>
    have := wordsOf_one s x (by simp at h; omega)
    simp only [List.cons_append, wordsOf, this]

/-- How long the slice in the box is. -/
def boxLen (Bs : Nat) (W : World) : Nat := match W.cell? ⟨Bs, 0, none⟩ with | some (.slice _ n _) => n | _ => 0

set_option maxRecDepth 100000 in
set_option maxHeartbeats 1000000 in
theorem words1_in (l Bs n₀ : Nat) (bs : List Nat) (hbs : ∀ x ∈ bs, x < 256) (J Jx : List Nat → World → Prop)
    (hJ : ∀ pre A B, J pre A → A.grownBy B (some Bs) → J pre B) (_hJx : ∀ pre A B, Jx pre A → A.grownBy B (some Bs) → Jx pre B) (hBn : n₀ ≤ Bs)
    (hY : ∀ pre x W1, J pre W1 → (pre ++ [x]) <+: wordsOf bs → YieldAt Fence.wide 8 Try.prog l #[vw x] W1 fun e W' =>
      (e = .returned (.bool true) ∧ J (pre ++ [x]) W' ∧ KeepsRow n₀ (some Bs) W1 W') ∨ (e = .returned (.bool false) ∧ Jx (pre ++ [x]) W'))
    (W : World) (A : Option Addr) (c : Nat) (hb : Boxed W Bs 22 (.slice A bs.length c)) (hs : Sl W n₀ A bs.length c (bs.map vb)) (h0 : J [] W) :
    CallsIn Fence.wide 9 Try.prog 17 #[.func (.yield l) #[] #[], .pointer (some ⟨Bs, 0, none⟩)] W fun e W' => (∃ v, e = .returned v) ∧
      ((∃ xs, xs = wordsOf bs ∧ J xs W') ∨ (∃ pre, True ∧ Jx pre W')) := by
  refine callsIn_of_wp Try.func17 rfl trivial ?_ rfl
  simp only [Try.ntmps17, List.size_toArray, List.length_cons, List.length_nil, Nat.reduceAdd, Nat.reduceSub, Array.replicate_succ, Array.replicate_zero, List.push_toArray, List.append_toArray, List.nil_append, List.cons_append]
  gi_wp2
  gi_loopw [3] (fun _ wr => ∃ (p r : List Nat) (n : Nat) (A : Option Addr) (c : Nat), bs = p ++ r ∧ p.length % 2 = 0 ∧ r.length = n ∧ J (wordsOf p) wr ∧ Boxed wr Bs 22 (.slice A n c) ∧ Sl wr n₀ A n c (r.map vb)) (fun _ wr => boxLen Bs wr)
  case atStart => exact ⟨[], bs, bs.length, A, c, rfl, rfl, rfl, h0, hb, hs⟩
  case round =>
    obtain ⟨p, r, n, A, c, hpr, hp2, hrn, hJs, hbx, hsl⟩ := hrel
    have HP := hide hpr
    have HP2 := hide hp2
    have HN := hide hrn
    clear hpr hp2 hrn
    have hc := hbx.cell
    have hf := hbx.frozen
    have hn63 : n ≤ 9223372036854775807 := by have h1 := hsl.2.1; have h2 := hsl.2.2.1; unfold maxLen at h2; omega
    by_cases h2n : 1 < n
    · obtain ⟨b, off, rfl, hbb, hcs⟩ := hsl.at_ (by omega)
      obtain ⟨x, y, r', rfl⟩ : ∃ x y r', r = x :: y :: r' := by
        have h := HN.out
        match r, h with
        | x :: y :: r', _ => exact ⟨x, y, r', rfl⟩
        | [x], h => simp at h; omega
        | [], h => simp at h; omega
      have hx : x < 256 := hbs x (by rw [HP.out]; simp)
      have hy256 : y < 256 := hbs y (by rw [HP.out]; simp)
      have c0 := hcs 0 (vb x) rfl
      have c1 := hcs 1 (vb y) rfl
      rw [Nat.add_zero] at c0
      clear hcs
      obtain ⟨fn, tmps, assign, body, hy, hR⟩ := hY (wordsOf p) (256 * x + y) wr.drew (hJ _ _ _ hJs ⟨rfl, rfl, rfl, Nat.le_refl _, fun _ _ _ => rfl⟩) (by rw [HP.out, wordsOf_two p x y r' HP2.out]; exact ⟨wordsOf r', by simp⟩)
      have hR' := round_bool hR
      clear hR
      rw [show vw (256 * x + y) = Value.int .u16 (bits BinOp.or IntKind.u16 (IntKind.u16.wrap (IntKind.u16.wrap (x : Int) * 256)) (IntKind.u16.wrap (y : Int))) from by rw [word_of x y hx hy256]] at hy
      have h0n : 0 < n := by omega
      have hmix : Try.prog.follows .mixedOrders = true := by kernel_rfl
      gi_wp2
      refine wpIn_region_still_tail (wide_wide _) 11 (by kernel_rfl) (by kernel_rfl) ?_
      simp only [List.take_succ_cons, List.take_zero, List.drop_succ_cons, List.drop_zero]
      iterate 11 still_step
      refine wpStill_nil ?_
      gi_wp2
      refine hR'.mono ?_
      rintro e W3 ⟨t, rfl, hyes, hno⟩
      cases t with
      | false =>
        have hx3 := hno rfl
        clear hyes hno
        gi_wp2
        refine bodyPost_ret (results_none rfl _ _ _) rfl ?_
        exact ⟨⟨_, rfl⟩, .inr ⟨_, trivial, hx3⟩⟩
      | true =>
        obtain ⟨hJ3, hk3⟩ := hyes rfl
        clear hyes hno
        have hbx3 : Boxed W3 Bs 22 (.slice (some ⟨b, off, none⟩) n c) := (hk3.2 Bs rfl).trans hbx
        have hc3 := hbx3.cell
        have hf3 := hbx3.frozen
        gi_wp2
        refine ⟨⟨p ++ [x, y], r', n - 2, _, _, by rw [HP.out]; simp, by rw [List.length_append]; have := HP2.out; simp; omega, by have := HN.out; simp at this; omega, ?_, hbx3.set _, ?_⟩, ?_⟩
        · rw [wordsOf_two p x y [] HP2.out]
          exact hJ _ _ _ hJ3 (grownBy_setCell' W3 Bs _)
        · exact ((hsl.drew.below hk3.1).cutIf (k := 2) (by omega)).keep fun q hq => World.cell?_setCell_other W3 _ q _ (fun e => by subst e; simp at hq; omega)
        · have e1 : boxLen Bs wr = n := by unfold boxLen; rw [hc]
          have e2 := (hbx3.set (.slice (if c = 2 then some ⟨b, off, none⟩ else some ⟨b, off + 2, none⟩) (n - 2) (c - 2))).cell
          unfold boxLen at e1 ⊢
          rw [e1, e2]
          show n - 2 < n
          omega
    · by_cases h1n : n = 1
      · subst h1n
        obtain ⟨b, off, rfl, hbb, hcs⟩ := hsl.at_ (by omega)
        obtain ⟨x, rfl⟩ : ∃ x, r = [x] := by
          have h := HN.out
          match r, h with
          | [x], _ => exact ⟨x, rfl⟩
        have c0 := hcs 0 (vb x) rfl
        rw [Nat.add_zero] at c0
        clear hcs
        obtain ⟨fn, tmps, assign, body, hy, hR⟩ := hY (wordsOf p) (256 * x) wr hJs (by rw [HP.out, wordsOf_one p x HP2.out]; exact List.prefix_rfl)
        have hx : x < 256 := hbs x (by rw [HP.out]; simp)
        rw [show vw (256 * x) = Value.int .u16 ((x : Int) * 256) from by rw [half_of x]] at hy
        have hR' := round_bool hR
        clear hR
        have ew : wordsOf bs = wordsOf p ++ [256 * x] := by rw [HP.out, wordsOf_one p x HP2.out]
        have HW := hide ew
        clear ew
        gi_wp2
        refine hR'.mono ?_
        rintro e W3 ⟨t, rfl, hyes, hno⟩
        gi_wp2
        go_end0
        refine ⟨⟨_, rfl⟩, ?_⟩
        cases t with
        | false => exact .inr ⟨_, trivial, hno rfl⟩
        | true => exact .inl ⟨_, rfl, by rw [HW.out]; exact (hyes rfl).1⟩
      · obtain rfl : n = 0 := by omega
        have ew : wordsOf bs = wordsOf p := by
          have h := HN.out
          match r, h, HP with
          | [], _, HP => rw [HP.out, List.append_nil]
        have HW := hide ew
        clear ew
        gi_wp2
        go_end0
        exact ⟨⟨_, rfl⟩, .inl ⟨_, rfl, by rw [HW.out]; exact hJs⟩⟩

/-- What 'words' hands back, as an iterator. -/
theorem words_stops (Bs n₀ : Nat) (bs : List Nat) (hbs : ∀ x ∈ bs, x < 256) (hBn : n₀ ≤ Bs) (w : World) (A : Option Addr) (c : Nat) (hb : Boxed w Bs 22 (.slice A bs.length c)) (hs : Sl w n₀ A bs.length c (bs.map vb)) (hn : n₀ ≤ w.heap.size) :
    SeqStopsB Fence.wide 9 Try.prog 17 #[.pointer (some ⟨Bs, 0, none⟩)] (fun x : Nat => #[vw x]) (some Bs) (KeepsRow n₀ (some Bs)) (fun xs => xs = wordsOf bs) (fun _ => True) (fun pre x => (pre ++ [x]) <+: wordsOf bs) w :=
  fun l J Jx W hW hJ hJx hY h0 =>
    words1_in l Bs n₀ bs hbs J Jx hJ hJx hBn hY W A c ((hW.block Bs hb.lt).trans hb) (hs.below (hW.mono hn)) h0

end Go.Proofs.Ytkanbnfiblbkpaa
