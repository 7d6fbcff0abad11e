/-
  inner.node.
-/
import Derived.Test.YtcmoblibjhaegaaIt
import Derived.Test.YtcmoblibjhaegaaNdg
namespace Go.Proofs.Ytcmoblibjhaegaa
open Go.RowKit

set_option maxRecDepth 100000 in
set_option maxHeartbeats 4000000 in
theorem node_yes (kv vv : Value) (ks vs : List Int) (link : Int) (w : World) (hl : ks.length ≤ 1000000) (hk : Sl w w.heap.size kv ks) (hv : Sl w w.heap.size vv vs) (hr : rightI true ks vs = true) :
    Calls Try.prog 30 #[kv, vv, .int .u64 link] w fun e w' => e = .returned (.agg #[.bool true, kv, vv, .int .u64 link]) ∧ Below w.heap.size w w' := by
  have Rt := hide (fun w2 (hB : Below w.heap.size w w2) => iright_any (.agg #[.bool true, kv, vv, .int .u64 link]) true ks vs link w2 hl ⟨kv, vv, rfl, (hk.below hB).more hB.size, (hv.below hB).more hB.size⟩)
  rw [hr] at Rt
  obtain ⟨A, c, rfl, _⟩ := hk
  obtain ⟨A', c', rfl, _⟩ := hv
  clear hr hl
  generalize ks.length = n at *
  generalize vs.length = m at *
  have bo := Blk.new w 27 #[.bool false, .slice none 0 0, .slice none 0 0, .int .u64 0]
  have bn := Blk.new (w.alloc (.cells #[.bool false, .slice none 0 0, .slice none 0 0, .int .u64 0] 27)) 27 #[.bool true, .slice A n c, .slice A' m c', .int .u64 link]
  replace bo := bo.alloc (.cells #[.bool true, .slice A n c, .slice A' m c', .int .u64 link] 27)
  have hb := ((Below.refl w.heap.size w).alloc (Nat.le_refl _) (.cells #[.bool false, .slice none 0 0, .slice none 0 0, .int .u64 0] 27)).alloc (by simp only [World.size_alloc]; omega) (.cells #[.bool true, .slice A n c, .slice A' m c', .int .u64 link] 27)
  simp only [World.size_alloc] at bn
  go_enter Try.func30, Try.ntmps30
  go_wp2_with fail
  generalize (w.alloc (.cells #[.bool false, .slice none 0 0, .slice none 0 0, .int .u64 0] 27)).alloc (.cells #[.bool true, .slice A n c, .slice A' m c', .int .u64 link] 27) = w2 at *
  try have m_n := fun i => bn.cell i
  try go_wp2_with fail
  refine (Rt.out _ hb).mono ?_
  rintro e w3 ⟨rfl, hb1⟩
  replace bo := bo.below hb1 bo.lt
  replace bn := bn.below hb1 bn.lt
  replace hb := hb.trans (hb1.mono hb.size)
  clear hb1 m_n
  go_wp2_with fail
  refine (must_yes _).mono ?_
  rintro e w4 ⟨rfl, rfl⟩
  have m_n := fun i => bn.cell i
  have m_o := fun i => bo.cell i
  have z_o := fun i => bo.frozen i
  go_wp2_with fail
  replace bo := bo.setN (.bool true) (.slice A n c) (.slice A' m c') (.int .u64 link)
  replace hb := below_setN hb (g := w.heap.size) (Nat.le_refl _) (.bool true) (.slice A n c) (.slice A' m c') (.int .u64 link)
  have c9 := fun i => bo.cell i
  refine bodyPost_ret (v := .agg #[.bool true, .slice A n c, .slice A' m c', .int .u64 link]) (by simp [results, Try.results30, go_sem, c9]) rfl ⟨rfl, hb⟩
set_option maxRecDepth 100000 in
set_option maxHeartbeats 4000000 in
theorem node_no (kv vv : Value) (ks vs : List Int) (link : Int) (w : World) (hl : ks.length ≤ 1000000) (hk : Sl w w.heap.size kv ks) (hv : Sl w w.heap.size vv vs) (hr : rightI true ks vs = false) :
    Calls Try.prog 30 #[kv, vv, .int .u64 link] w fun e w' => e = .panicked wrongP ∧ Below w.heap.size w w' := by
  have Rt := hide (fun w2 (hB : Below w.heap.size w w2) => iright_any (.agg #[.bool true, kv, vv, .int .u64 link]) true ks vs link w2 hl ⟨kv, vv, rfl, (hk.below hB).more hB.size, (hv.below hB).more hB.size⟩)
  rw [hr] at Rt
  obtain ⟨A, c, rfl, _⟩ := hk
  obtain ⟨A', c', rfl, _⟩ := hv
  clear hr hl
  generalize ks.length = n at *
  generalize vs.length = m at *
  have bo := Blk.new w 27 #[.bool false, .slice none 0 0, .slice none 0 0, .int .u64 0]
  have bn := Blk.new (w.alloc (.cells #[.bool false, .slice none 0 0, .slice none 0 0, .int .u64 0] 27)) 27 #[.bool true, .slice A n c, .slice A' m c', .int .u64 link]
  replace bo := bo.alloc (.cells #[.bool true, .slice A n c, .slice A' m c', .int .u64 link] 27)
  have hb := ((Below.refl w.heap.size w).alloc (Nat.le_refl _) (.cells #[.bool false, .slice none 0 0, .slice none 0 0, .int .u64 0] 27)).alloc (by simp only [World.size_alloc]; omega) (.cells #[.bool true, .slice A n c, .slice A' m c', .int .u64 link] 27)
  simp only [World.size_alloc] at bn
  go_enter Try.func30, Try.ntmps30
  go_wp2_with fail
  generalize (w.alloc (.cells #[.bool false, .slice none 0 0, .slice none 0 0, .int .u64 0] 27)).alloc (.cells #[.bool true, .slice A n c, .slice A' m c', .int .u64 link] 27) = w2 at *
  try have m_n := fun i => bn.cell i
  try go_wp2_with fail
  refine (Rt.out _ hb).mono ?_
  rintro e w3 ⟨rfl, hb1⟩
  replace bo := bo.below hb1 bo.lt
  replace bn := bn.below hb1 bn.lt
  replace hb := hb.trans (hb1.mono hb.size)
  clear hb1 m_n
  go_wp2_with fail
  refine (must_no _).mono ?_
  rintro e w4 ⟨rfl, rfl⟩
  go_wp2_with fail
  exact ⟨rfl, rfl, hb⟩
end Go.Proofs.Ytcmoblibjhaegaa
