/- The law's contract over data: whatever the step and the number read as, they read so behind the call, and the law says true. -/
import Derived.Test.YtdnbefdedopmkaaGreatDoorGlaw
import Derived.Test.YtdnbefdedopmkaaGreatDoorFacts
import Derived.ProofKit
namespace Go.Proofs.YtdnbefdedopmkaaGreatDoor
open Go.ChangeShapes Go.WideShapes Go.ChangeAt Go.RowKit

theorem cellsNetStep : Tryz.prog.cellsOf 26 = 6 := by kernel_rfl
theorem array_six {cs : Array Value} (h : cs.size = 6) : ∃ a b c d e f, cs = #[a, b, c, d, e, f] := by
  obtain ⟨l⟩ := cs
  match l, h with
  | [a, b, c, d, e, f], _ => exact ⟨a, b, c, d, e, f, rfl⟩

set_option maxRecDepth 100000 in
theorem law_post {H : Type} {enc : TypeId × Value → H} (s : ChangeSpec) (hs0 : s.vars = []) (hs : ∀ d0 d1, s.fn H [d0, d1] = { results := [.lit (.bool true)], args := [d0, d1] })
    (W : World) (base : Nat) (args : Array Value) (ds gs : List (DataW H)) (before : List MemPlace)
    (hval : ∀ (j : Nat) t v, Tryz.f3.params[j]? = some t → args[j]? = some v → Value.okWide Tryz.prog W .any base t v)
    (hW : DataW.Whole enc Tryz.prog Tryz.f3.params.toList s.vars false W args.toList ds gs before) :
    Calls Tryz.prog 3 args W fun e W' => ∃ v, e = .returned v ∧ s.post enc Tryz.prog Tryz.f3 false true false false W args v W' := by
  have hW' := hW
  obtain ⟨p, q, hA0, hV, rfl, hfz, hnd⟩ := hW
  have hA : DataW.TrodAll enc Tryz.prog W 0 (fun _ => true) true Tryz.f3.params.toList args.toList ds p := hA0
  rw [Tryz.params3] at hA hval
  obtain ⟨v0, v1, d0, d1, p0, p1, rfl, rfl, rfl, h0, h1⟩ := trodAll_two hA
  rw [hs0] at hV
  obtain ⟨rfl, rfl⟩ := trodVars_none hV
  obtain ⟨cs, rfl, hsz⟩ := okWide_struct Tryz.underlying26 (hval 0 26 v0 rfl rfl)
  obtain ⟨a, b, c, d, e, f, rfl⟩ := array_six (hsz.trans cellsNetStep)
  clear hA0 hval
  simp only [List.append_nil] at hW'
  have hlt : ∀ x ∈ p0 ++ p1, x.block < W.heap.size := fun x hx => by simpa using hW'.lt x hx
  refine (law_walk a b c d e f v1 W).mono ?_
  rintro e' W' ⟨rfl, bel⟩
  have e1 := hs d0 d1
  refine ⟨_, rfl, _, _, _, [], p0 ++ p1, [], hW', ?_, ?_, ?_, bel.frame _, fun h => by cases h⟩
  · rw [List.append_nil, e1]; exact trodAll_mk1 (shut_bool Tryz.underlying4 _)
  · rw [List.append_nil, e1]; exact trodAll_mk2 (Below.trod laidOut (by kernel_rfl) (of_decide_eq_true (by kernel_rfl)) h0 bel (fun x hx => hlt x (by simp [hx]))) (Below.trod laidOut (by kernel_rfl) (of_decide_eq_true (by kernel_rfl)) h1 bel (fun x hx => hlt x (by simp [hx])))
  · rw [List.append_nil, e1, hs0]; rfl
end Go.Proofs.YtdnbefdedopmkaaGreatDoor
