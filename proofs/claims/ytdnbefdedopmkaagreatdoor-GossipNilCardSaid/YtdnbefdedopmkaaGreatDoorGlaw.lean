/- The law over a nil net, whatever the step and the number. -/
import Derived.Test.YtdnbefdedopmkaaGreatDoorGnew
namespace Go.Proofs.YtdnbefdedopmkaaGreatDoor
open Go.RowKit
attribute [local go_sem] run_makeMap

set_option maxRecDepth 100000 in
theorem gdo_nil (cs : Array Value) (w : World) : Calls Tryz.prog 5 #[.pointer none, .agg cs] w fun e w' => e = .returned (.string ⟨#[101, 114, 114, 110, 111, 32, 49]⟩) ∧ Below w.heap.size w w' := by
  go_enter Tryz.func5, Tryz.ntmps5
  go_wp2_with fail
  refine (answer_one _).mono ?_
  rintro e w1 ⟨rfl, rfl⟩
  go_wp2_with fail
  go_ret
  exact ⟨rfl, below_al (Below.refl _ _) _⟩

set_option maxRecDepth 100000 in
set_option maxHeartbeats 1000000 in
theorem law_walk (k a b c ea ba : Value) (i : Value) (w : World) : Calls Tryz.prog 3 #[.agg #[k, a, b, c, ea, ba], i] w fun e w' => e = .returned (.bool true) ∧ Below w.heap.size w w' := by
  go_enter Tryz.func3, Tryz.ntmps3
  go_wp2_with fail
  refine (gnew _).mono ?_
  rintro e w1 ⟨p, rfl, hB1⟩
  have c0 : ∀ j v, (w.alloc (.cells #[k, a, b, c, ea, ba] 26)).cell? ⟨w.heap.size, j, none⟩ = some v → w1.cell? ⟨w.heap.size, j, none⟩ = some v := fun j v h => (hB1.cell (p := ⟨w.heap.size, j, none⟩) (by simp)).trans h
  have a0 := c0 0 k (by rw [World.cell?_alloc_at _ _ _ _ (by simp)]; rfl)
  have a1 := c0 1 a (by rw [World.cell?_alloc_at _ _ _ _ (by simp)]; rfl)
  have a2 := c0 2 b (by rw [World.cell?_alloc_at _ _ _ _ (by simp)]; rfl)
  have a3 := c0 3 c (by rw [World.cell?_alloc_at _ _ _ _ (by simp)]; rfl)
  have a4 := c0 4 ea (by rw [World.cell?_alloc_at _ _ _ _ (by simp)]; rfl)
  have a5 := c0 5 ba (by rw [World.cell?_alloc_at _ _ _ _ (by simp)]; rfl)
  have HB1 := Lib.hid ((below_al (Below.refl _ w) (.cells #[k, a, b, c, ea, ba] 26)).trans (hB1.mono (by simp))); clear hB1 c0
  go_wp2_with fail
  refine (gdo_nil _ _).mono ?_
  rintro e w2 ⟨rfl, hB2⟩
  have HB2 := Lib.hid (HB1.out.trans (hB2.mono HB1.out.size)); clear hB2 HB1 a0 a1 a2 a3 a4 a5
  go_wp2_with fail
  refine (gRender_nil _ _).mono ?_
  rintro e w' ⟨rfl, rfl⟩
  go_wp2_with fail
  refine (gFrontier_nil _ _).mono ?_
  rintro e w' ⟨rfl, rfl⟩
  go_wp2_with fail
  refine (gAccepted_nil _ _).mono ?_
  rintro e w' ⟨rfl, rfl⟩
  go_wp2_with fail
  refine (gWay_nil _ _ _).mono ?_
  rintro e w' ⟨rfl, rfl⟩
  go_wp2_with fail
  refine (gEven_nil _).mono ?_
  rintro e w' ⟨rfl, rfl⟩
  go_wp2_with fail
  go_ret
  exact ⟨rfl, HB2.out⟩
end Go.Proofs.YtdnbefdedopmkaaGreatDoor
