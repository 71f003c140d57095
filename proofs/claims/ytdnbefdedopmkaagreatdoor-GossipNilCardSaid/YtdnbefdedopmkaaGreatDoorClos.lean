/- The closure of a function, reckoned by a table of what each function names: general laws. -/
import GoSem.ClaimGoes
import Derived.KernelRfl
namespace Go.Proofs.YtdnbefdedopmkaaGreatDoor
open Go

/-- A table of lists, looked up by the number's bits. -/
inductive Tr where
  | leaf (l : List Nat)
  | node (a b : Tr)
noncomputable def Tr.get (t : Tr) : Nat → List Nat :=
  Tr.rec (fun l _ => l) (fun _ _ ga gb i => Nat.casesOn (i % 2) (ga (i / 2)) (fun _ => gb (i / 2))) t

/-- True of each number below n. -/
def Upto (p : Nat → Bool) (n : Nat) : Prop := ∀ f, f < n → p f = true
theorem Upto.zero (p : Nat → Bool) : Upto p 0 := fun _ h => absurd h (Nat.not_lt_zero _)
theorem Upto.step {p : Nat → Bool} {a k : Nat} (h : Upto p a) (c : (List.range' a k).all p = true) : Upto p (a + k) := fun f hf => by
  rcases Nat.lt_or_ge f a with h1 | h1
  · exact h f h1
  · exact List.all_eq_true.1 c f (List.mem_range'_1.2 ⟨h1, hf⟩)

/-- What a function leads to, by the table; nothing beyond the last one. -/
noncomputable def look (t : Tr) (n f : Nat) : List Nat := Nat.casesOn (n - f) [] (fun _ => t.get f)
theorem look_lt {t : Tr} {n f : Nat} (h : f < n) : look t n f = t.get f := by
  unfold look
  obtain ⟨k, hk⟩ : ∃ k, n - f = k + 1 := ⟨n - f - 1, by omega⟩
  rw [hk]
theorem look_ge {t : Tr} {n f : Nat} (h : n ≤ f) : look t n f = [] := by
  unfold look
  rw [show n - f = 0 by omega]
  rfl

theorem leads_all {P : Program} {t : Tr} {n : Nat} (hn : P.funcs.size = n) (h : Upto (fun f => (P.funcs[f]?).elim [] P.leadsTo == t.get f) n) (f : Nat) : (P.funcs[f]?).elim [] P.leadsTo = look t n f := by
  rcases Nat.lt_or_ge f n with h1 | h1
  · rw [look_lt h1]; exact eq_of_beq (h f h1)
  · rw [look_ge h1, Array.getElem?_eq_none (by omega)]; rfl

/-- The closure's run, with a mask for what has been seen. -/
noncomputable def clos (g : Nat → List Nat) (n : Nat) : List Nat → Nat → List Nat → List Nat :=
  Nat.rec (fun _ _ seen => seen.reverse) (fun _ ih todo mask seen => List.casesOn todo seen.reverse fun f r => cond (mask.testBit f) (ih r mask seen) (ih (g f ++ r) (mask ||| (1 <<< f)) (f :: seen))) n
theorem clos_zero (g : Nat → List Nat) (todo : List Nat) (mask : Nat) (seen : List Nat) : clos g 0 todo mask seen = seen.reverse := rfl
theorem clos_nil (g : Nat → List Nat) (n : Nat) (mask : Nat) (seen : List Nat) : clos g n [] mask seen = seen.reverse := by cases n <;> rfl
theorem clos_cons (g : Nat → List Nat) (n f : Nat) (r : List Nat) (mask : Nat) (seen : List Nat) : clos g (n + 1) (f :: r) mask seen = cond (mask.testBit f) (clos g n r mask seen) (clos g n (g f ++ r) (mask ||| (1 <<< f)) (f :: seen)) := rfl

theorem closureVia_eq {P : Program} {g : Nat → List Nat} (h : ∀ f, (P.funcs[f]?).elim [] P.leadsTo = g f) : ∀ (n : Nat) (todo seen : List Nat) (mask : Nat), (∀ f, seen.contains f = mask.testBit f) → P.closureVia n todo seen = clos g n todo mask seen := by
  intro n
  induction n with
  | zero => intro todo seen mask _; rfl
  | succ n ih =>
    intro todo seen mask hm
    cases todo with
    | nil => rw [clos_nil]; rfl
    | cons f r =>
      rw [clos_cons, ← hm f]
      show (if seen.contains f then P.closureVia n r seen else P.closureVia n ((P.funcs[f]?).elim [] P.leadsTo ++ r) (f :: seen)) = _
      cases hc : seen.contains f with
      | true => simp only [if_true, cond_true]; exact ih r seen mask hm
      | false =>
        simp only [Bool.false_eq_true, if_false, cond_false]
        rw [h f]
        refine ih _ _ _ (fun x => ?_)
        rw [List.contains_cons, hm x, Nat.testBit_or, Nat.one_shiftLeft, Nat.testBit_two_pow, Bool.or_comm]
        congr 1
        rw [Bool.eq_iff_iff]
        simp only [beq_iff_eq, decide_eq_true_eq]
        exact eq_comm

theorem fuel_eq {P : Program} {g : Nat → List Nat} {n : Nat} (hn : P.funcs.size = n) (h : ∀ f, (P.funcs[f]?).elim [] P.leadsTo = g f) : (P.funcs.toList.map fun x => (P.leadsTo x).length + 1) = (List.range n).map fun f => (g f).length + 1 := by
  apply List.ext_getElem
  · simp [hn]
  · intro i h1 h2
    simp only [List.getElem_map, List.getElem_range, Array.getElem_toList]
    have hi : i < P.funcs.size := by simpa using h1
    have := h i
    rw [Array.getElem?_eq_getElem hi] at this
    rw [← this]
    rfl

theorem closure_eq {P : Program} {t : Tr} {n : Nat} (hn : P.funcs.size = n) (h : Upto (fun f => (P.funcs[f]?).elim [] P.leadsTo == t.get f) n) (f : Nat) {k : Nat} (hk : ((List.range n).map fun f => (look t n f).length + 1).sum = k) {L : List Nat}
    (hL : clos (look t n) (k + 1) [f] 0 [] = L) : P.closure f = L := by
  have hl := leads_all hn h
  unfold Program.closure
  rw [fuel_eq hn hl, hk, Nat.add_comm, closureVia_eq hl _ _ _ 0 (fun x => by simp), hL]
end Go.Proofs.YtdnbefdedopmkaaGreatDoor
