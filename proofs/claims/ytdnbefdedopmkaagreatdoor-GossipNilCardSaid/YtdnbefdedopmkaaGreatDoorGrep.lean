/- A new replica. -/
import Derived.Test.YtdnbefdedopmkaaGreatDoorGbase
import Derived.Deep.RegionHeld3
namespace Go.Proofs.YtdnbefdedopmkaaGreatDoor
open Go.RowKit
attribute [local go_sem] run_makeMap

set_option maxRecDepth 100000 in
set_option maxHeartbeats 1000000 in
theorem rep_new (w : World) : Calls Tryz.prog 11 #[.agg #[.int .i64 1, .int .i64 0, .int .i64 0]] w fun e w' => ∃ p, e = .returned (.tuple #[.pointer (some ⟨p, 0, none⟩), .int .i64 0]) ∧ Below w.heap.size w w' := by
  go_enter Tryz.func11, Tryz.ntmps11
  go_wp2_with fail
  refine (orph_new _).mono ?_
  rintro e w1 ⟨p1, rfl, hB1⟩
  have c0 : ∀ k v, (w.alloc (.cells #[.int .i64 1, .int .i64 0, .int .i64 0] 32)).cell? ⟨w.heap.size, k, none⟩ = some v → w1.cell? ⟨w.heap.size, k, none⟩ = some v := fun k v h => (hB1.cell (p := ⟨w.heap.size, k, none⟩) (by simp)).trans h
  have a0 := c0 0 (.int .i64 1) (by rw [World.cell?_alloc_at _ _ _ _ (by simp)]; rfl)
  have a1 := c0 1 (.int .i64 0) (by rw [World.cell?_alloc_at _ _ _ _ (by simp)]; rfl)
  have a2 := c0 2 (.int .i64 0) (by rw [World.cell?_alloc_at _ _ _ _ (by simp)]; rfl)
  have hs1 : w.heap.size < w1.heap.size := by have := hB1.size; simp at this; omega
  have H1 := Lib.hid ((below_al (Below.refl _ w) (.cells #[.int .i64 1, .int .i64 0, .int .i64 0] 32)).trans (hB1.mono (by simp))); clear hB1 c0
  go_wp2_with fail
  refine (eval_new _).mono ?_
  rintro e w2 ⟨p2, rfl, hB2⟩
  have b0 := (hB2.cell (p := ⟨w.heap.size, 0, none⟩) hs1).trans a0
  have b1 := (hB2.cell (p := ⟨w.heap.size, 1, none⟩) hs1).trans a1
  have b2 := (hB2.cell (p := ⟨w.heap.size, 2, none⟩) hs1).trans a2
  have hs2 : w.heap.size < w2.heap.size := by have := hB2.size; omega
  have H2 := Lib.hid (H1.out.trans (hB2.mono (by omega))); clear hB2 H1 a0 a1 a2 hs1
  go_wp2_with fail
  go_region_held3 (fun w' => w'.cell? ⟨w.heap.size, 0, none⟩ = some (.int .i64 1) ∧ w'.cell? ⟨w.heap.size, 1, none⟩ = some (.int .i64 0) ∧ w'.cell? ⟨w.heap.size, 2, none⟩ = some (.int .i64 0))
    (first | ((try dsimp only); (try go_split_ands); simp only [World.cell?_drew]; (repeat rw [World.cell?_alloc_past _ _ _ (by first | omega | (simp; omega))]); exact ⟨by assumption, by assumption, by assumption⟩))
    (first | (go_at_call 30; refine (dag_new _).mono ?_; rintro e w3 ⟨rfl, rfl⟩))
  go_wp2_with fail
  go_ret2
  refine ⟨_, rfl, ?_⟩
  exact (below_al (below_al (below_al H2.out _) _) _).drew
end Go.Proofs.YtdnbefdedopmkaaGreatDoor
