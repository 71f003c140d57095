/- A new replica, and what a nil net answers: the functions one by one. -/
import Derived.Test.YtdnbefdedopmkaaGreatDoorChecked
import Derived.WalkKit
import Derived.WalkSpells
import Derived.WalkLawsBesides
import Derived.OwnWalk
import Derived.Lib.Hide
import Derived.RangeFuncOwn
namespace Go.Proofs.YtdnbefdedopmkaaGreatDoor
open Go.RowKit
attribute [local go_sem] run_makeMap

theorem below_al {w W : World} (h : Below w.heap.size w W) (o : Obj) : Below w.heap.size w (W.alloc o) := h.alloc h.size o

abbrev idzA : Array Value := #[.int .u8 0, .int .u8 0, .int .u8 0, .int .u8 0, .int .u8 0, .int .u8 0, .int .u8 0, .int .u8 0, .int .u8 0, .int .u8 0, .int .u8 0, .int .u8 0, .int .u8 0, .int .u8 0, .int .u8 0, .int .u8 0, .int .u8 0, .int .u8 0, .int .u8 0, .int .u8 0, .int .u8 0, .int .u8 0, .int .u8 0, .int .u8 0, .int .u8 0, .int .u8 0, .int .u8 0, .int .u8 0, .int .u8 0, .int .u8 0, .int .u8 0, .int .u8 0, .int .i64 0]
abbrev idz : Value := .agg idzA
theorem checkKeyZ (b : Bool) (w : World) : (Instr.checkKey b 10000 196 idz).run Tryz.prog w = .ok () w := by cases b <;> kernel_rfl

theorem mapUpdate_fresh (b : Nat) (v : Value) (w : World) (hb : w.heap[b]? = some (.map #[] 0)) :
    (Instr.mapUpdate 201 (.map (some b)) idz v).run Tryz.prog w = .ok () (w.putObj b (.map #[{ key := idz, val := v, born := 0 }] 1)) := by
  have h1 := checkKeyZ false w
  have h2 := fun o => MapKept.run_setObj_map (P := Tryz.prog) o hb
  unfold Instr.mapUpdate
  simp only [Sem.run_bind, run_underlying Tryz.underlying201, Result.andThen_ok, MapKept.run_getObj_map hb, Instr.findKey]
  rw [h1]
  simp only [run_underlying Tryz.underlying196, Result.andThen_ok, Instr.findNow, Sem.run_pure, h2]
  rfl

theorem regs_new (w : World) : Calls Tryz.prog 109 #[] w fun e w' => e = .returned (.pointer (some ⟨w.heap.size + 1, 0, none⟩)) ∧ (w.alloc (.map #[] 0)).alloc (.cells #[.map (some w.heap.size), .slice none 0 0] 310) = w' := by
  go_enter Tryz.func109, Tryz.ntmps109
  go_wp2
  go_ret
  exact ⟨rfl, rfl⟩
theorem made_map (w : World) : Calls Tryz.prog 110 #[.int .u8 8, .int .i64 0] w fun e w' => e = .returned (.iface 311 (.pointer (some ⟨w.heap.size, 0, none⟩))) ∧ w.alloc (.cells #[.int .i64 0] 315) = w' := by
  go_enter Tryz.func110, Tryz.ntmps110
  go_wp2
  go_ret
  exact ⟨rfl, rfl⟩
set_option maxRecDepth 100000 in
theorem doc_new (w : World) : Calls Tryz.prog 54 #[] w fun e w' => ∃ p, e = .returned (.pointer (some ⟨p, 0, none⟩)) ∧ Below w.heap.size w w' := by
  go_enter Tryz.func54, Tryz.ntmps54
  go_wp2_with fail
  refine (regs_new _).mono ?_
  rintro e w1 ⟨rfl, rfl⟩
  go_wp2_with fail
  refine (made_map _).mono ?_
  rintro e w2 ⟨rfl, rfl⟩
  go_wp2_with fail
  have al : ∀ (W : World) (o : Obj) (k n : Nat), k = W.heap.size → (W.alloc o).heap[k]? = some o := fun W o k n h => by subst h; exact World.alloc_heap_new W o
  rw [mapUpdate_fresh _ _ _ (by rw [Below.heap_alloc _ _ _ (by simp)]; exact al _ _ _ 0 (by simp))]
  go_wp2_with fail
  go_ret
  refine ⟨_, rfl, ?_⟩
  refine below_al (below_al ?_ _) _
  exact ((below_al (below_al (below_al (below_al (Below.refl _ _) _) _) _) _)).grown (grownBy_putObj' _ _ _) (by simp; omega) (fun k e => by cases e; omega)

theorem dag_new (w : World) : Calls Tryz.prog 30 #[] w fun e w' => e = .returned (.pointer (some ⟨w.heap.size + 1, 0, none⟩)) ∧ (w.alloc (.map #[] 0)).alloc (.cells #[.slice none 0 0, .map (some w.heap.size), .slice none 0 0] 125) = w' := by
  go_enter Tryz.func30, Tryz.ntmps30
  go_wp2_with fail
  go_ret
  exact ⟨rfl, rfl⟩

theorem eval_new (w : World) : Calls Tryz.prog 29 #[.int .i64 1, .int .i64 0] w fun e w' => ∃ p, e = .returned (.tuple #[.pointer (some ⟨p, 0, none⟩), .int .i64 0]) ∧ Below w.heap.size w w' := by
  go_enter Tryz.func29, Tryz.ntmps29
  go_wp2_with fail
  refine (doc_new _).mono ?_
  rintro e w1 ⟨p, rfl, hB⟩
  have H1 := Lib.hid hB; clear hB
  go_wp2_with fail
  go_ret2
  exact ⟨_, rfl, below_al H1.out _⟩

theorem orph_new (w : World) : Calls Tryz.prog 28 #[.int .i64 0] w fun e w' => ∃ p, e = .returned (.tuple #[.pointer (some ⟨p, 0, none⟩), .int .i64 0]) ∧ Below w.heap.size w w' := by
  go_enter Tryz.func28, Tryz.ntmps28
  go_wp2_with fail
  go_ret2
  exact ⟨_, rfl, below_al (below_al (below_al (Below.refl _ _) _) _) _⟩

theorem small_one (w : World) : Calls Tryz.prog 118 #[.int .i64 1] w fun e w' => e = .returned (.string ⟨#[49]⟩) ∧ w = w' := by
  go_enter Tryz.func118, Tryz.ntmps118
  go_wp2
  go_ret
  exact ⟨rfl, rfl⟩
theorem format_one (w : World) : Calls Tryz.prog 63 #[.int .i64 1, .int .i64 10] w fun e w' => e = .returned (.string ⟨#[49]⟩) ∧ w = w' := by
  go_enter Tryz.func63, Tryz.ntmps63
  go_wp2_with fail
  refine (small_one _).mono ?_
  rintro e w1 ⟨rfl, rfl⟩
  go_wp2_with fail
  go_ret
  exact ⟨rfl, rfl⟩
theorem iitoa_one (w : World) : Calls Tryz.prog 34 #[.int .i64 1] w fun e w' => e = .returned (.string ⟨#[49]⟩) ∧ w = w' := by
  go_enter Tryz.func34, Tryz.ntmps34
  go_wp2_with fail
  refine (format_one _).mono ?_
  rintro e w1 ⟨rfl, rfl⟩
  go_wp2_with fail
  go_ret
  exact ⟨rfl, rfl⟩
theorem itoa_one (w : World) : Calls Tryz.prog 16 #[.int .i64 1] w fun e w' => e = .returned (.string ⟨#[49]⟩) ∧ w = w' := by
  go_enter Tryz.func16, Tryz.ntmps16
  go_wp2_with fail
  refine (iitoa_one _).mono ?_
  rintro e w1 ⟨rfl, rfl⟩
  go_wp2_with fail
  go_ret
  exact ⟨rfl, rfl⟩
theorem answer_one (w : World) : Calls Tryz.prog 13 #[.int .i64 1] w fun e w' => e = .returned (.string ⟨#[101, 114, 114, 110, 111, 32, 49]⟩) ∧ w = w' := by
  go_enter Tryz.func13, Tryz.ntmps13
  go_wp2_with fail
  refine (itoa_one _).mono ?_
  rintro e w1 ⟨rfl, rfl⟩
  go_wp2_with fail
  go_ret
  exact ⟨rfl, rfl⟩
theorem gof_nil (i : Value) (w : World) : Calls Tryz.prog 23 #[.pointer none, i] w fun e w' => e = .returned (.pointer none) ∧ w = w' := by
  go_enter Tryz.func23, Tryz.ntmps23
  go_wp2
  go_ret
  exact ⟨rfl, rfl⟩
theorem grow_nil (w : World) : Calls Tryz.prog 262 #[.slice none 0 0] w fun e w' => e = .returned (.pointer none) ∧ w = w' := by
  go_enter Tryz.func262, Tryz.ntmps262
  go_wp2_with fail
  go_loopw [3, 9] (fun v i wr => v = .slice none 0 0 ∧ i = .int .i64 0 ∧ wr = w) (fun _ _ _ => 0)
  case atStart => exact ⟨rfl, rfl, rfl⟩
  case round =>
    obtain ⟨rfl, rfl, rfl⟩ := hrel
    go_wp2_with fail
    go_ret
    exact ⟨rfl, rfl⟩
theorem part_nil (w : World) : Calls Tryz.prog 180 #[.slice none 0 0] w fun e w' => e = .returned (.pointer none) ∧ w = w' := by
  go_enter Tryz.func180, Tryz.ntmps180
  go_wp2_with fail
  refine (grow_nil _).mono ?_
  rintro e w1 ⟨rfl, rfl⟩
  go_wp2_with fail
  go_ret
  exact ⟨rfl, rfl⟩
theorem written_nil (p : Value) (w : World) : Calls Tryz.prog 104 #[.slice none 0 0, p] w fun e w' => e = .returned (.string ⟨#[]⟩) ∧ w = w' := by
  go_enter Tryz.func104, Tryz.ntmps104
  go_wp2_with fail
  refine (part_nil _).mono ?_
  rintro e w1 ⟨rfl, rfl⟩
  go_wp2_with fail
  go_ret
  exact ⟨rfl, rfl⟩
theorem text_nil (w : World) : Calls Tryz.prog 50 #[.slice none 0 0] w fun e w' => e = .returned (.string ⟨#[]⟩) ∧ w = w' := by
  go_enter Tryz.func50, Tryz.ntmps50
  go_wp2_with fail
  refine (written_nil _ _).mono ?_
  rintro e w1 ⟨rfl, rfl⟩
  go_wp2_with fail
  go_ret
  exact ⟨rfl, rfl⟩
theorem repNodes_nil (w : World) : Calls Tryz.prog 51 #[.pointer none] w fun e w' => e = .returned (.slice none 0 0) ∧ w = w' := by
  go_enter Tryz.func51, Tryz.ntmps51
  go_wp2
  go_ret
  exact ⟨rfl, rfl⟩
theorem repRender_nil (w : World) : Calls Tryz.prog 24 #[.pointer none] w fun e w' => e = .returned (.string ⟨#[]⟩) ∧ w = w' := by
  go_enter Tryz.func24, Tryz.ntmps24
  go_wp2_with fail
  refine (repNodes_nil _).mono ?_
  rintro e w1 ⟨rfl, rfl⟩
  go_wp2_with fail
  refine (text_nil _).mono ?_
  rintro e w1 ⟨rfl, rfl⟩
  go_wp2_with fail
  go_ret
  exact ⟨rfl, rfl⟩
theorem repFrontier_nil (w : World) : Calls Tryz.prog 25 #[.pointer none] w fun e w' => e = .returned (.slice none 0 0) ∧ w = w' := by
  go_enter Tryz.func25, Tryz.ntmps25
  go_wp2
  go_ret
  exact ⟨rfl, rfl⟩
theorem repAccepted_nil (w : World) : Calls Tryz.prog 26 #[.pointer none] w fun e w' => e = .returned (.slice none 0 0) ∧ w = w' := by
  go_enter Tryz.func26, Tryz.ntmps26
  go_wp2
  go_ret
  exact ⟨rfl, rfl⟩
theorem gRender_nil (i : Value) (w : World) : Calls Tryz.prog 6 #[.pointer none, i] w fun e w' => e = .returned (.string ⟨#[]⟩) ∧ w = w' := by
  go_enter Tryz.func6, Tryz.ntmps6
  go_wp2_with fail
  refine (gof_nil _ _).mono ?_
  rintro e w1 ⟨rfl, rfl⟩
  go_wp2_with fail
  refine (repRender_nil _).mono ?_
  rintro e w1 ⟨rfl, rfl⟩
  go_wp2_with fail
  go_ret
  exact ⟨rfl, rfl⟩
theorem gFrontier_nil (i : Value) (w : World) : Calls Tryz.prog 7 #[.pointer none, i] w fun e w' => e = .returned (.slice none 0 0) ∧ w = w' := by
  go_enter Tryz.func7, Tryz.ntmps7
  go_wp2_with fail
  refine (gof_nil _ _).mono ?_
  rintro e w1 ⟨rfl, rfl⟩
  go_wp2_with fail
  refine (repFrontier_nil _).mono ?_
  rintro e w1 ⟨rfl, rfl⟩
  go_wp2_with fail
  go_ret
  exact ⟨rfl, rfl⟩
theorem gAccepted_nil (i : Value) (w : World) : Calls Tryz.prog 8 #[.pointer none, i] w fun e w' => e = .returned (.slice none 0 0) ∧ w = w' := by
  go_enter Tryz.func8, Tryz.ntmps8
  go_wp2_with fail
  refine (gof_nil _ _).mono ?_
  rintro e w1 ⟨rfl, rfl⟩
  go_wp2_with fail
  refine (repAccepted_nil _).mono ?_
  rintro e w1 ⟨rfl, rfl⟩
  go_wp2_with fail
  go_ret
  exact ⟨rfl, rfl⟩
theorem gWay_nil (i j : Value) (w : World) : Calls Tryz.prog 9 #[.pointer none, i, j] w fun e w' => e = .returned (.int .i64 0) ∧ w = w' := by
  go_enter Tryz.func9, Tryz.ntmps9
  go_wp2
  go_ret
  exact ⟨rfl, rfl⟩
theorem gEven_nil (w : World) : Calls Tryz.prog 10 #[.pointer none] w fun e w' => e = .returned (.bool false) ∧ w = w' := by
  go_enter Tryz.func10, Tryz.ntmps10
  go_wp2
  go_ret
  exact ⟨rfl, rfl⟩
end Go.Proofs.YtdnbefdedopmkaaGreatDoor
