/-
  memory.New and gleaningref09.New.
-/
import Derived.Test.YtpkocgcagemnbaaDoorMemoB
import Derived.Test.YtpkocgcagemnbaaDoorSlc
import Derived.Deep.RegionHeld3
import Derived.Deep.OwnRows
namespace Go.Proofs.YtpkocgcagemnbaaDoor
open Go.RowKit
attribute [local go_sem] past_cell past_cell_add

def zs (n : Nat) : List Int := List.replicate n 0
theorem made_zs (n : Nat) : madeCells #[Value.int .u64 0] n = (ints .u64 (zs n)).toArray := by
  apply Array.ext
  · simp [ints, zs, madeCells]
  · intro i h1 h2
    simp [ints, zs, madeCells, Nat.mod_one]
set_option maxHeartbeats 1000000 in
theorem rnew_any (s t f l p : Int) (N : Nat) (w : World) (hN : rSize s t f l p = N) (hb : N ≤ 1000000) :
    Calls Tryd.prog 26 #[.agg #[.int .i64 s, .int .i64 t, .int .i64 f, .int .i64 l, .int .i64 p]] w fun e w' => (∃ g, e = .returned (.slice (some ⟨g, 0, none⟩) N N) ∧ RefOk w' g (zs N) ∧ w.heap.size ≤ g) ∧ Below w.heap.size w w' := by
  have S1 := hide (fun w => rsize_any s t f l p w)
  rw [hN] at S1
  have hmk := run_make_row' (P := Tryd.prog) 41 43 (.int .u64 0) 8 Tryd.underlying41 infoU64 rfl .i64 .i64 N (by omega) (by omega)
  have Z := hide (made_zs N)
  have HN := hide hN
  clear hN
  generalize madeCells #[Value.int .u64 0] N = cs at *
  go_enter Tryd.func26, Tryd.ntmps26
  go_wp2_with fail
  have B0 := (Below.refl w.heap.size w).alloc (Nat.le_refl _) (.cells #[.int .i64 s, .int .i64 t, .int .i64 f, .int .i64 l, .int .i64 p] 23)
  refine (S1.out _).mono ?_
  rintro e w1 ⟨rfl, hb1⟩
  replace B0 := B0.trans (hb1.mono B0.size)
  clear hb1
  go_wp2_with fail
  go_ret
  refine ⟨⟨_, rfl, ?_, B0.size⟩, B0.alloc B0.size _⟩
  have := Blk.new w1 43 cs
  rw [Z.out] at this ⊢
  exact this
set_option maxHeartbeats 1000000 in
theorem mnew_no (s t f l p : Int) (w : World) (hT : Tab w) (hc : cfgOk s t f l p = false) :
    Calls Tryd.prog 25 #[.agg #[.int .i64 s, .int .i64 t, .int .i64 f, .int .i64 l, .int .i64 p]] w fun e w' => e = .returned (.pointer none) ∧ Below w.heap.size w w' := by
  have NW := hide (fun w2 (hb : Below w.heap.size w w2) => new_no s t f l p w2 (hT.below hb) hc)
  have S1 := hide size_zero
  go_enter Tryd.func25, Tryd.ntmps25
  go_wp2_with fail
  have B0 := (Below.refl w.heap.size w).alloc (Nat.le_refl _) (.cells #[.int .i64 s, .int .i64 t, .int .i64 f, .int .i64 l, .int .i64 p] 23)
  refine (NW.out _ B0).mono ?_
  rintro e w1 ⟨rfl, hb1⟩
  replace B0 := B0.trans (hb1.mono B0.size)
  clear hb1
  go_wp2_with fail
  replace B0 := B0.alloc B0.size (.cells #[.int .i64 0, .int .i64 0, .int .i64 0, .int .i64 0, .int .i64 0] 27)
  refine (S1.out _).mono ?_
  rintro e w2 ⟨rfl, hb1⟩
  replace B0 := B0.trans (hb1.mono B0.size)
  go_wp2_with fail
  go_ret
  exact ⟨rfl, B0⟩
set_option maxHeartbeats 2000000 in
theorem mnew_yes (s t f l p : Int) (N : Nat) (w : World) (hT : Tab w) (hc : cfgOk s t f l p = true) (hN : laySize s t f = N) :
    Calls Tryd.prog 25 #[.agg #[.int .i64 s, .int .i64 t, .int .i64 f, .int .i64 l, .int .i64 p]] w fun e w' => (∃ gm gw, e = .returned (.pointer (some ⟨gm, 0, none⟩)) ∧ MemOk w' gm gw s t f l p (zs N) ∧ w.heap.size ≤ gm ∧ w.heap.size ≤ gw) ∧ Below w.heap.size w w' := by
  have hb := cfgOk_iff.1 hc
  have hs : 1 ≤ s ∧ s ≤ 1000 := by omega
  have ht : 1 ≤ t ∧ t ≤ 64 := by omega
  have hf : 4 ≤ f ∧ f ≤ 64 := by omega
  have hz := size_pos hs ht hf
  clear hb
  have NW := hide (fun w2 (hb : Below w.heap.size w w2) => new_yes s t f l p w2 (hT.below hb) hc)
  have S1 := hide (fun w => size_any s t f l p w hs ht hf)
  rw [hN] at S1 hz
  have hmk := run_make_row' (P := Tryd.prog) 41 43 (.int .u64 0) 8 Tryd.underlying41 infoU64 rfl .i64 .i64 N (by omega) (by omega)
  have Z := hide (made_zs N)
  have q : ((N : Int) == 0) = false := by rw [beq_eq_false_iff_ne]; omega
  have zl : (zs N).length = N := by simp [zs]
  have HZ := hide zl
  clear hN hs ht hf hc hz zl
  generalize madeCells #[Value.int .u64 0] N = cs at *
  go_enter Tryd.func25, Tryd.ntmps25
  go_wp2_with fail
  have B0 := (Below.refl w.heap.size w).alloc (Nat.le_refl _) (.cells #[.int .i64 s, .int .i64 t, .int .i64 f, .int .i64 l, .int .i64 p] 23)
  refine (NW.out _ B0).mono ?_
  rintro e w1 ⟨rfl, hb1⟩
  replace B0 := B0.trans (hb1.mono B0.size)
  have hs1 := B0.size
  clear hb1
  go_wp2_with fail
  have bo := Blk.new w1 27 #[.int .i64 s, .int .i64 t, .int .i64 f, .int .i64 l, .int .i64 p]
  replace B0 := B0.alloc B0.size (.cells #[.int .i64 s, .int .i64 t, .int .i64 f, .int .i64 l, .int .i64 p] 27)
  refine (S1.out _).mono ?_
  rintro e w2 ⟨rfl, hb1⟩
  replace bo := bo.below hb1 bo.lt
  replace B0 := B0.trans (hb1.mono B0.size)
  clear hb1
  have mo := fun i => bo.cell i
  have lo := bo.lt
  go_wp2_with fail
  have bd := bo.drew
  have Bd := B0.drew
  have g1 : w1.heap.size < w2.heap.size := bo.lt
  go_region_held3 (fun w' => w'.cell? ⟨w1.heap.size, 0, none⟩ = some (.int .i64 s) ∧ w'.cell? ⟨w1.heap.size, 1, none⟩ = some (.int .i64 t) ∧ w'.cell? ⟨w1.heap.size, 2, none⟩ = some (.int .i64 f) ∧ w'.cell? ⟨w1.heap.size, 3, none⟩ = some (.int .i64 l) ∧ w'.cell? ⟨w1.heap.size, 4, none⟩ = some (.int .i64 p)) (go_keep) ((go_at_call 33; refine (S1.out _).mono ?_; rintro e w3 ⟨rfl, hb3⟩; have b3 := bd.below hb3 bd.lt; have m3 := fun i => b3.cell i; have B3 := Bd.trans (hb3.mono Bd.size); have l3 := b3.lt))
  all_goals
    go_wp2_with fail
    go_ret
    have M1 := (Blk.new w3 43 cs).alloc (.cells #[.int .i64 s, .int .i64 t, .int .i64 f, .int .i64 l, .int .i64 p, .slice (some ⟨w3.heap.size, 0, none⟩) N N] 58)
    have M2 := Blk.new (w3.alloc (.cells cs 43)) 58 #[.int .i64 s, .int .i64 t, .int .i64 f, .int .i64 l, .int .i64 p, .slice (some ⟨w3.heap.size, 0, none⟩) N N]
    rw [World.size_alloc] at M2
    have MM : MemOk ((w3.alloc (.cells cs 43)).alloc (.cells #[.int .i64 s, .int .i64 t, .int .i64 f, .int .i64 l, .int .i64 p, .slice (some ⟨w3.heap.size, 0, none⟩) N N] 58)) (w3.heap.size + 1) w3.heap.size s t f l p (zs N) := by
      unfold MemOk
      rw [HZ.out, ← Z.out]
      exact ⟨M2, M1, by omega⟩
    have hs3 := B3.size
    refine ⟨⟨w3.heap.size + 1, w3.heap.size, rfl, MM, by omega, hs3⟩, ?_⟩
    exact (B3.alloc hs3 _).alloc (by simp only [World.size_alloc]; omega) _
end Go.Proofs.YtpkocgcagemnbaaDoor
