/- A new net of one replica. -/
import Derived.Test.YtdnbefdedopmkaaGreatDoorGrep
namespace Go.Proofs.YtdnbefdedopmkaaGreatDoor
open Go.RowKit
attribute [local go_sem] run_makeMap

theorem infoRep : (Tryz.prog.info? 53).map (fun i => (i.zero, i.size, i.bytes)) = some (some (.pointer none), 1, 8) := by kernel_rfl
theorem infoBss : (Tryz.prog.info? 71).map (fun i => (i.zero, i.size, i.bytes)) = some (some (.slice none 0 0), 1, 24) := by kernel_rfl
theorem box_one {w : World} {v : Value} {e : TypeId} {b : Nat} (hb : b = w.heap.size) : ∀ j u, [v][j]? = some u → (w.alloc (.cells #[v] e)).cell? ((⟨b, 0, none⟩ : Addr).add j) = some u := by
  subst hb
  intro j u hu
  rw [Addr.add_mid, cell_of_row _ _ _ #[v] e (0, 0) (World.alloc_heap_new w _)]
  rcases j with _ | j
  · simpa using hu
  · simp at hu
theorem owns_slice {w : World} {base : Nat} {e : TypeId} {sz n : Nat} {v : Value} {xs : List Value} (h : w.ownsRow base e sz v n xs) : ∃ a c, v = .slice a n c := by
  obtain ⟨h0, h⟩ := h
  rcases h with ⟨rfl, h1⟩ | ⟨g, cap, cur, rfl, _⟩
  · have : n = 0 := by
      subst h1
      simp at h0
      omega
    subst this
    exact ⟨_, _, rfl⟩
  · exact ⟨_, _, rfl⟩

/-- What a net's cells hold at the round's head. -/
def NetAt (w : World) (p : Nat) (k : Nat) (W : World) : Prop :=
  Below w.heap.size w W ∧ p < W.heap.size ∧ W.cell? ⟨w.heap.size, 0, none⟩ = some (.int .i64 1) ∧ W.cell? ⟨w.heap.size, 1, none⟩ = some (.int .i64 0) ∧ W.cell? ⟨w.heap.size, 2, none⟩ = some (.int .i64 0) ∧
  (∃ v, W.cell? ⟨p, 5, none⟩ = some v ∧ (k = 0 → v = .slice none 0 0) ∧ ∃ a c, v = .slice a k c) ∧
  (∃ v, W.cell? ⟨p, 6, none⟩ = some v ∧ (k = 0 → v = .slice none 0 0)) ∧ W.frozen? ⟨p, 5, none⟩ = false ∧ W.frozen? ⟨p, 6, none⟩ = false

/-- A lone replica meets nobody. -/
theorem meet_one (p : Nat) (a : Option Addr) (c : Nat) (w : World) (h5 : w.cell? ⟨p, 5, none⟩ = some (.slice a 1 c)) :
    Calls Tryz.prog 12 #[.pointer (some ⟨p, 0, none⟩), .int .i64 0] w fun e w' => e = .returned (.tuple #[]) ∧ w = w' := by
  go_enter Tryz.func12, Tryz.ntmps12
  go_wp2_with fail
  go_loopw [10] (fun i wr => ∃ k : Nat, k ≤ 1 ∧ i = .int .i64 k ∧ wr = w) (fun i _ => 1 - (intOf i).toNat)
  case atStart => exact ⟨0, by omega, rfl, rfl⟩
  case round =>
    obtain ⟨k, hk, rfl, rfl⟩ := hrel
    by_cases hk0 : k = 0
    · subst hk0
      go_wp2_with fail
      go_roundw
      case rel => exact ⟨1, by omega, rfl, trivial⟩
      case measure => simp [intOf]
    · obtain rfl : k = 1 := by omega
      clear hk hk0
      go_wp2_with fail
      go_end0
      exact ⟨rfl, rfl⟩

set_option maxRecDepth 100000 in
set_option maxHeartbeats 1000000 in
theorem gnew (w : World) : Calls Tryz.prog 4 #[.int .i64 1, .agg #[.int .i64 1, .int .i64 0, .int .i64 0]] w fun e w' => ∃ p, e = .returned (.tuple #[.pointer (some ⟨p, 0, none⟩), .int .i64 0]) ∧ Below w.heap.size w w' := by
  go_enter Tryz.func4, Tryz.ntmps4
  go_wp2_with fail
  have h0 : NetAt w (w.heap.size + 1 + 1 + 1) 0 ((((w.alloc (Obj.cells #[Value.int IntKind.i64 1, Value.int IntKind.i64 0, Value.int IntKind.i64 0] 32)).alloc (Obj.map #[] 0)).alloc (Obj.map #[] 0)).alloc
    (Obj.cells #[Value.int IntKind.i32 0, Value.int IntKind.u32 0, Value.int IntKind.i64 1, Value.int IntKind.i64 0, Value.int IntKind.i64 0, Value.slice none 0 0, Value.slice none 0 0, Value.map (some (w.heap.size + 1)), Value.map (some (w.heap.size + 1 + 1))] 52)) := by
    refine ⟨below_al (below_al (below_al (below_al (Below.refl _ _) _) _) _) _, by simp, ?_, ?_, ?_, ⟨_, ?_, fun _ => rfl, none, 0, rfl⟩, ⟨_, ?_, fun _ => rfl⟩, ?_, ?_⟩ <;> go_simp
  obtain ⟨W0, hW0⟩ : ∃ W0, ((((w.alloc (Obj.cells #[Value.int IntKind.i64 1, Value.int IntKind.i64 0, Value.int IntKind.i64 0] 32)).alloc (Obj.map #[] 0)).alloc (Obj.map #[] 0)).alloc
    (Obj.cells #[Value.int IntKind.i32 0, Value.int IntKind.u32 0, Value.int IntKind.i64 1, Value.int IntKind.i64 0, Value.int IntKind.i64 0, Value.slice none 0 0, Value.slice none 0 0, Value.map (some (w.heap.size + 1)), Value.map (some (w.heap.size + 1 + 1))] 52)) = W0 := ⟨_, rfl⟩
  rw [hW0] at h0 ⊢
  clear hW0
  obtain ⟨p, hp⟩ : ∃ p, w.heap.size + 1 + 1 + 1 = p := ⟨_, rfl⟩
  rw [hp] at h0 ⊢
  have hpw : w.heap.size ≠ p := by omega
  have hpl : w.heap.size ≤ p := by omega
  clear hp
  go_loopw [22] (fun i wr => (i = .int .i64 0 ∧ NetAt w p 0 wr) ∨ (i = .int .i64 1 ∧ NetAt w p 1 wr)) (fun i _ => 1 - (intOf i).toNat)
  case atStart => exact .inl ⟨rfl, h0⟩
  case round =>
    clear h0
    rcases hrel with ⟨rfl, hN⟩ | ⟨rfl, hN⟩
    · obtain ⟨hB, hlt, c0, c1, c2, ⟨v5, c5, hv5, _⟩, ⟨v6, c6, hv6⟩, f5, f6⟩ := hN
      obtain rfl := hv5 rfl
      obtain rfl := hv6 rfl
      clear hv5 hv6
      have HB := Lib.hid hB; clear hB
      go_wp2_with fail
      refine (rep_new _).mono ?_
      rintro e w1 ⟨q, rfl, hB1⟩
      have hs1 := hB1.size
      have hltw : w.heap.size < wr.heap.size := by omega
      have c5' := (hB1.cell (p := ⟨p, 5, none⟩) hlt).trans c5
      have c6' := (hB1.cell (p := ⟨p, 6, none⟩) hlt).trans c6
      have f5' := (hB1.frozen (p := ⟨p, 5, none⟩) hlt).trans f5
      have f6' := (hB1.frozen (p := ⟨p, 6, none⟩) hlt).trans f6
      have d0 := (hB1.cell (p := ⟨w.heap.size, 0, none⟩) hltw).trans c0
      have d1 := (hB1.cell (p := ⟨w.heap.size, 1, none⟩) hltw).trans c1
      have d2 := (hB1.cell (p := ⟨w.heap.size, 2, none⟩) hltw).trans c2
      have HB2 := Lib.hid (HB.out.trans (hB1.mono (by omega)))
      have hp1 : p < w1.heap.size := by omega
      clear hB1 c0 c1 c2 c5 c6 f5 f6 HB
      have HD := Lib.hid (And.intro d0 (And.intro d1 d2)); clear d0 d1 d2
      obtain ⟨i0, hi, hz0, hz1, hz2⟩ := info_parts infoRep
      go_wp2_with (at_builtin; refine wpList_append_own _ rfl _ _ 49 rfl w1.heap.size 53 i0 (.pointer none) 1 8 Tryz.underlying49 hi hz0 hz1 hz2 rfl (by decide) _ 0 [] rfl ((World.ownsRow_nil w1 w1.heap.size 53 1).alloc _) ⟨w1.heap.size, 0, none⟩ 1 1 [.pointer (some ⟨q, 0, none⟩)] rfl rfl ?c1 ?c2 ?c3 ?c4 ?c5 ?_)
      case c1 => exact box_one rfl
      case c2 => intro u hu; simp at hu; subst hu; rfl
      case c3 => unfold maxLen; omega
      case c4 => omega
      case c5 => simp
      intro v' w2 hown hgrow _
      obtain ⟨a, c, rfl⟩ := owns_slice hown
      clear hown hi hz0 hz1 hz2
      have hs2 : w1.heap.size < w2.heap.size := by have := hgrow.size; simp at this; omega
      have hlw1 : w.heap.size < w1.heap.size := by omega
      have hbl : ∀ b, b < w1.heap.size → w2.heap[b]? = w1.heap[b]? := fun b hb => (hgrow.block b (by simp; omega) (by simp [Value.ownBlock])).trans (Below.heap_alloc _ _ _ hb)
      have c5 := (World.cell?_of_block (a := ⟨p, 5, none⟩) (hbl p hp1)).trans c5'
      have c6 := (World.cell?_of_block (a := ⟨p, 6, none⟩) (hbl p hp1)).trans c6'
      have f5 := (World.frozen?_of_block (a := ⟨p, 5, none⟩) (hbl p hp1)).trans f5'
      have f6 := (World.frozen?_of_block (a := ⟨p, 6, none⟩) (hbl p hp1)).trans f6'
      have HD2 := Lib.hid (And.intro ((World.cell?_of_block (a := ⟨w.heap.size, 0, none⟩) (hbl w.heap.size hlw1)).trans HD.out.1) (And.intro ((World.cell?_of_block (a := ⟨w.heap.size, 1, none⟩) (hbl w.heap.size hlw1)).trans HD.out.2.1) ((World.cell?_of_block (a := ⟨w.heap.size, 2, none⟩) (hbl w.heap.size hlw1)).trans HD.out.2.2)))
      have HB3 := Lib.hid ((below_al HB2.out _).grown hgrow (by have := HB2.out.size; simp; omega) (fun k e => by simp [Value.ownBlock] at e))
      clear hgrow HB2 HD c5' c6' f5' f6'
      obtain ⟨i0, hi, hz0, hz1, hz2⟩ := info_parts infoBss
      go_wp2_with (at_builtin; refine wpList_append_own _ rfl _ _ 50 rfl 0 71 i0 (.slice none 0 0) 1 24 Tryz.underlying50 hi hz0 hz1 hz2 rfl (by decide) _ 0 [] rfl (World.ownsRow_nil _ _ _ _) _ 1 1 [.slice none 0 0] rfl rfl ?c1 ?c2 ?c3 ?c4 ?c5 ?_)
      case c1 => exact box_one (by simp [World.setCell])
      case c2 => intro u hu; simp at hu; subst hu; rfl
      case c3 => unfold maxLen; omega
      case c4 => omega
      case c5 => exact Nat.zero_le _
      intro v6 w4 hown6 hgrow _
      obtain ⟨a6, m6, rfl⟩ := owns_slice hown6
      clear hown6
      have hps : (w2.setCell ⟨p, 5, none⟩ (.slice a 1 c)).heap.size = w2.heap.size := by simp [World.setCell]
      have hp2 : p < w2.heap.size := by omega
      have hbl : ∀ b, b < w2.heap.size → w4.heap[b]? = (w2.setCell ⟨p, 5, none⟩ (.slice a 1 c)).heap[b]? := fun b hb => (hgrow.block b (by simp; omega) (by simp [Value.ownBlock])).trans (Below.heap_alloc _ _ _ (by omega))
      have e5 : w4.cell? ⟨p, 5, none⟩ = some (.slice a 1 c) := (World.cell?_of_block (a := ⟨p, 5, none⟩) (hbl p hp2)).trans (World.cell?_setCell_same' w2 ⟨p, 5, none⟩ _ (by rw [c5]; rfl))
      have e6 : w4.cell? ⟨p, 6, none⟩ = some (.slice none 0 0) := (World.cell?_of_block (a := ⟨p, 6, none⟩) (hbl p hp2)).trans (by go_simp)
      have g5 : w4.frozen? ⟨p, 5, none⟩ = false := (World.frozen?_of_block (a := ⟨p, 5, none⟩) (hbl p hp2)).trans (by go_simp)
      have g6 : w4.frozen? ⟨p, 6, none⟩ = false := (World.frozen?_of_block (a := ⟨p, 6, none⟩) (hbl p hp2)).trans (by go_simp)
      have hB4 : Below w.heap.size w w4 := (below_al (HB3.out.setCell hpl _) _).grown hgrow (by have := HB3.out.size; simp; omega) (fun k e => by simp [Value.ownBlock] at e)
      have kk : ∀ o v, w2.cell? ⟨w.heap.size, o, none⟩ = some v → w4.cell? ⟨w.heap.size, o, none⟩ = some v := fun o v h => (World.cell?_of_block (a := ⟨w.heap.size, o, none⟩) (hbl w.heap.size (by omega))).trans ((World.cell?_setCell_other w2 ⟨p, 5, none⟩ ⟨w.heap.size, o, none⟩ _ (by simp)).trans h)
      have k0 := kk 0 _ HD2.out.1
      have k1 := kk 1 _ HD2.out.2.1
      have k2 := kk 2 _ HD2.out.2.2
      have hp4 : p < w4.heap.size := by have := hgrow.size; simp at this; omega
      have hN4 : NetAt w p 1 (w4.setCell ⟨p, 6, none⟩ (.slice a6 1 m6)) := by
        have oo : ∀ o, (w4.setCell ⟨p, 6, none⟩ (.slice a6 1 m6)).cell? ⟨w.heap.size, o, none⟩ = w4.cell? ⟨w.heap.size, o, none⟩ := fun o => World.cell?_setCell_other w4 ⟨p, 6, none⟩ ⟨w.heap.size, o, none⟩ _ (by simp)
        refine ⟨hB4.setCell hpl _, by simp [World.setCell]; exact hp4, (oo 0).trans k0, (oo 1).trans k1, (oo 2).trans k2, ⟨_, ?_, (fun h => by cases h), a, c, rfl⟩, ⟨_, World.cell?_setCell_same' w4 ⟨p, 6, none⟩ _ (by rw [e6]; rfl), (fun h => by cases h)⟩, ?_, ?_⟩ <;> go_simp
      have HN4 := Lib.hid hN4
      clear hN4 k0 k1 k2 kk hbl hgrow HB3 HD2 c5 c6 f5 f6 hB4 hi hz0 hz1 hz2
      go_wp2_with fail
      go_roundw
      case rel => exact .inr ⟨rfl, HN4.out⟩
      case measure => simp [intOf]
    · have HN := Lib.hid hN; clear hN
      go_wp2_with fail
      go_loopw [53] (fun i wr' => (i = .int .i64 0 ∨ i = .int .i64 1) ∧ wr' = wr) (fun i _ => 1 - (intOf i).toNat)
      case atStart => exact ⟨.inl rfl, rfl⟩
      case round =>
        obtain ⟨hi, rfl⟩ := hrel
        obtain ⟨v, hv, _, a, c, rfl⟩ := HN.out.2.2.2.2.2.1
        have HV := Lib.hid hv; clear hv
        rcases hi with rfl | rfl
        · go_wp2_with fail
          refine (meet_one p a c _ HV.out).mono ?_
          rintro e w' ⟨rfl, rfl⟩
          go_wp2_with fail
          go_roundw
          case rel => exact ⟨.inr rfl, trivial⟩
          case measure => simp [intOf]
        · go_wp2_with fail
          go_ret2
          exact ⟨_, rfl, HN.out.1⟩
end Go.Proofs.YtdnbefdedopmkaaGreatDoor
