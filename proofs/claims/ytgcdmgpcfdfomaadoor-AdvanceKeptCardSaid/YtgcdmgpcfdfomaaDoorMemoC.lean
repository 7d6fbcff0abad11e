/-
  memory.New and gleaningref09.New.
-/
import Derived.Test.YtgcdmgpcfdfomaaDoorMemoB
import Derived.Test.YtgcdmgpcfdfomaaDoorSlc
import Derived.Deep.RegionHeld3
import Derived.Deep.OwnRows
namespace Go.Proofs.YtgcdmgpcfdfomaaDoor
open Go.RowKit
attribute [local go_sem] past_cell past_cell_add

def zs (n : Nat) : List Int := List.replicate n 0
theorem made_zs (n : Nat) : madeCells #[Value.int .u64 0] n = (ints .u64 (zs n)).toArray := by
  apply Array.ext
  · simp [ints, zs, madeCells]
  · intro i h1 h2
    simp [ints, zs, madeCells, Nat.mod_one]
set_option maxHeartbeats 1000000 in
theorem rnew_any (s t f l p : Int) (N : Nat) (w : World) (hN : rSize s t f l p = N) (hb : N ≤ 1000000) :
    Calls Tryd.prog 22 #[.agg #[.int .i64 s, .int .i64 t, .int .i64 f, .int .i64 l, .int .i64 p]] w fun e w' => (∃ g, e = .returned (.slice (some ⟨g, 0, none⟩) N N) ∧ RefOk w' g (zs N) ∧ w.heap.size ≤ g) ∧ Below w.heap.size w w' := by
  have S1 := hide (fun w => rsize_any s t f l p w)
  rw [hN] at S1
  have hmk := run_make_row' (P := Tryd.prog) 27 29 (.int .u64 0) 8 Tryd.underlying27 infoU64 rfl .i64 .i64 N (by omega) (by omega)
  have Z := hide (made_zs N)
  have HN := hide hN
  clear hN
  generalize madeCells #[Value.int .u64 0] N = cs at *
  go_enter Tryd.func22, Tryd.ntmps22
  go_wp2_with fail
  have B0 := (Below.refl w.heap.size w).alloc (Nat.le_refl _) (.cells #[.int .i64 s, .int .i64 t, .int .i64 f, .int .i64 l, .int .i64 p] 23)
  refine (S1.out _).mono ?_
  rintro e w1 ⟨rfl, hb1⟩
  replace B0 := B0.trans (hb1.mono B0.size)
  clear hb1
  go_wp2_with fail
  go_ret
  refine ⟨⟨_, rfl, ?_, B0.size⟩, B0.alloc B0.size _⟩
  have := Blk.new w1 29 cs
  rw [Z.out] at this ⊢
  exact this
end Go.Proofs.YtgcdmgpcfdfomaaDoor
