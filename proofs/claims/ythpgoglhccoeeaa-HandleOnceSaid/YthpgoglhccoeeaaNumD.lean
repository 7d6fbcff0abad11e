/-
  Package num: Parse, Unhex; the reference's Int; the example.
-/
import Derived.Test.YthpgoglhccoeeaaNumC
namespace Go.Proofs.Ythpgoglhccoeeaa
open Go.RowKit

set_option maxHeartbeats 400000 in
theorem reader_any (b : Nat) (w : World) :
    Calls Try.prog 36 #[.int .u64 b] w fun e w' => e = .returned (.func (.func 41) #[] #[.pointer (some ⟨w.heap.size, 0, none⟩)]) ∧ w' = w.alloc (.cells #[.int .u64 b] 22) := by
  go_enter Try.func36, Try.ntmps36
  go_wp2_with fail
  go_ret
  exact ⟨rfl, rfl⟩

set_option maxHeartbeats 400000 in
theorem parse_any (s : ByteArray) (w : World) (hs : s.size ≤ 1000) :
    Calls Try.prog 27 #[.string s] w fun e w' => e = .returned (.tuple #[.int .u64 (rdRes 10 s.data.toList).1, .int .i64 (rdRes 10 s.data.toList).2]) ∧ Below w.heap.size w w' := by
  have Rd := hide (reader_any 10 w)
  have zz : ((10 : Nat) : Int) = 10 := rfl
  rw [zz] at Rd
  clear zz
  have R1 := hide (fun w2 hc => reader1_any 10 w.heap.size s w2 (by omega) hs hc)
  have hcf : ∀ args w', (callFunc 41 args).run Try.prog w' = .ok (.enter 41 args) w' := fun args w' => run_enter Try.func41 (by decide) (by simp [Try.f41]) args w'
  generalize rdRes 10 s.data.toList = R at *
  go_enter Try.func27, Try.ntmps27
  go_wp2_with fail
  refine Rd.out.mono ?_
  rintro e w1 ⟨rfl, rfl⟩
  go_wp2_with fail
  refine (R1.out _ ?_).mono ?_
  · exact (Blk.new w 22 #[.int .u64 10]).cell 0
  rintro e w2 ⟨rfl, rfl⟩
  go_wp2_with fail
  go_ret2
  exact ⟨rfl, (Below.refl _ _).alloc (Nat.le_refl _) _⟩



end Go.Proofs.Ythpgoglhccoeeaa
