/-
  Package vword: contracts.
-/
import Derived.Test.YtigjnnedkdmahaaField
import Derived.Test.YtigjnnedkdmahaaVplain
import Derived.Deep.LoopGhost
import Derived.Deep.RegionWith
namespace Go.Proofs.Ytigjnnedkdmahaa
open Go.RowKit

theorem W64.small {x : Int} (h : 0 ≤ x ∧ x ≤ 1) : W64 x := ⟨h.1, by omega⟩
theorem b2i_w (b : Bool) : W64 (b2i b) := W64.small (b2i_bound b)

set_option maxHeartbeats 400000 in
theorem vone_any (b : Bool) (w : World) : Calls Try.prog 29 #[.bool b] w fun e w' => e = .returned (.int .u64 (b2i b)) ∧ w = w' := by
  cases b
  · go_enter Try.func29, Try.ntmps29
    go_wp2
    go_ret
    exact ⟨rfl, rfl⟩
  · go_enter Try.func29, Try.ntmps29
    go_wp2
    go_ret
    exact ⟨rfl, rfl⟩

set_option maxHeartbeats 400000 in
theorem vmake_any (g c : Int) (d l : Bool) (w : World) (hg : W64 g) (hc : W64 c) :
    Calls Try.prog 6 #[.int .u64 g, .int .u64 c, .bool d, .bool l] w fun e w' => e = .returned (.int .u64 (vpack g c d l)) ∧ w = w' := by
  have z : W64 0 := ⟨by omega, by omega⟩
  have i0 : I64 0 := ⟨by omega, by omega⟩
  have i1 : I64 1 := ⟨by omega, by omega⟩
  have P1 := hide (fun w => put_any 0 40 24 g w z ⟨by omega, by omega⟩ ⟨by omega, by omega⟩ hg)
  have P2 := hide (fun w => put_any (fput 0 40 24 g) 2 38 c w (fput_bound z hg) ⟨by omega, by omega⟩ ⟨by omega, by omega⟩ hc)
  have P3 := hide (fun w => put_any (fput (fput 0 40 24 g) 2 38 c) 1 1 (b2i d) w (fput_bound (fput_bound z hg) hc) i1 i1 (b2i_w d))
  have P4 := hide (fun w => put_any (fput (fput (fput 0 40 24 g) 2 38 c) 1 1 (b2i d)) 0 1 (b2i l) w (fput_bound (fput_bound (fput_bound z hg) hc) (b2i_w d)) i0 i1 (b2i_w l))
  rw [put_make] at P4
  have O1 := hide (fun w => vone_any d w)
  have O2 := hide (fun w => vone_any l w)
  generalize fput (fput (fput 0 40 24 g) 2 38 c) 1 1 (b2i d) = x3 at *
  generalize fput (fput 0 40 24 g) 2 38 c = x2 at *
  generalize fput 0 40 24 g = x1 at *
  generalize vpack g c d l = r at *
  generalize b2i d = d1 at *
  generalize b2i l = l1 at *
  go_enter Try.func6, Try.ntmps6
  go_wp2_with fail
  refine (P1.out _).mono ?_
  rintro e w' ⟨rfl, rfl⟩
  go_wp2_with fail
  refine (P2.out _).mono ?_
  rintro e w' ⟨rfl, rfl⟩
  go_wp2_with fail
  refine (O1.out _).mono ?_
  rintro e w' ⟨rfl, rfl⟩
  go_wp2_with fail
  refine (P3.out _).mono ?_
  rintro e w' ⟨rfl, rfl⟩
  go_wp2_with fail
  refine (O2.out _).mono ?_
  rintro e w' ⟨rfl, rfl⟩
  go_wp2_with fail
  refine (P4.out _).mono ?_
  rintro e w' ⟨rfl, rfl⟩
  go_wp2_with fail
  go_ret
  exact ⟨rfl, rfl⟩

set_option maxHeartbeats 400000 in
theorem vlock_any (x : Int) (w : World) (hx : W64 x) : Calls Try.prog 14 #[.int .u64 x] w fun e w' => e = .returned (.int .u64 (vlock x)) ∧ w = w' := by
  have P := hide (fun w => put_any x 0 1 1 w hx ⟨by omega, by omega⟩ ⟨by omega, by omega⟩ ⟨by omega, by omega⟩)
  rw [put_lock hx] at P
  generalize vlock x = r at *
  go_enter Try.func14, Try.ntmps14
  go_wp2_with fail
  refine (P.out _).mono ?_
  rintro e w' ⟨rfl, rfl⟩
  go_wp2_with fail
  go_ret
  exact ⟨rfl, rfl⟩
set_option maxHeartbeats 400000 in
theorem vundo_any (x : Int) (w : World) (hx : W64 x) : Calls Try.prog 16 #[.int .u64 x] w fun e w' => e = .returned (.int .u64 (vundo x)) ∧ w = w' := by
  have P := hide (fun w => put_any x 0 1 0 w hx ⟨by omega, by omega⟩ ⟨by omega, by omega⟩ ⟨by omega, by omega⟩)
  rw [put_undo hx] at P
  generalize vundo x = r at *
  go_enter Try.func16, Try.ntmps16
  go_wp2_with fail
  refine (P.out _).mono ?_
  rintro e w' ⟨rfl, rfl⟩
  go_wp2_with fail
  go_ret
  exact ⟨rfl, rfl⟩
set_option maxHeartbeats 400000 in
theorem vdie_any (x : Int) (w : World) (hx : W64 x) : Calls Try.prog 35 #[.int .u64 x] w fun e w' => e = .returned (.int .u64 (vdie x)) ∧ w = w' := by
  have P := hide (fun w => put_any x 1 1 1 w hx ⟨by omega, by omega⟩ ⟨by omega, by omega⟩ ⟨by omega, by omega⟩)
  rw [put_dead hx] at P
  generalize vdie x = r at *
  go_enter Try.func35, Try.ntmps35
  go_wp2_with fail
  refine (P.out _).mono ?_
  rintro e w' ⟨rfl, rfl⟩
  go_wp2_with fail
  go_ret
  exact ⟨rfl, rfl⟩

set_option maxHeartbeats 400000 in
theorem vcnt_any (x : Int) (w : World) (hx : W64 x) : Calls Try.prog 11 #[.int .u64 x] w fun e w' => e = .returned (.int .u64 (vcnt x)) ∧ w = w' := by
  have P := hide (fun w => get_any x 2 38 w hx ⟨by omega, by omega⟩ ⟨by omega, by omega⟩)
  rw [get_cnt] at P
  generalize vcnt x = r at *
  go_enter Try.func11, Try.ntmps11
  go_wp2_with fail
  refine (P.out _).mono ?_
  rintro e w' ⟨rfl, rfl⟩
  go_wp2_with fail
  go_ret
  exact ⟨rfl, rfl⟩
set_option maxHeartbeats 400000 in
theorem vgen_any (x : Int) (w : World) (hx : W64 x) : Calls Try.prog 12 #[.int .u64 x] w fun e w' => e = .returned (.int .u64 (vgen x)) ∧ w = w' := by
  have P := hide (fun w => get_any x 40 24 w hx ⟨by omega, by omega⟩ ⟨by omega, by omega⟩)
  rw [get_gen hx] at P
  generalize vgen x = r at *
  go_enter Try.func12, Try.ntmps12
  go_wp2_with fail
  refine (P.out _).mono ?_
  rintro e w' ⟨rfl, rfl⟩
  go_wp2_with fail
  go_ret
  exact ⟨rfl, rfl⟩
set_option maxHeartbeats 400000 in
theorem vlocked_any (x : Int) (w : World) (hx : W64 x) : Calls Try.prog 9 #[.int .u64 x] w fun e w' => e = .returned (.bool (vlocked x)) ∧ w = w' := by
  have P := hide (fun w => bit_any x 0 w hx ⟨by omega, by omega⟩)
  rw [show (fget x 0 1 == 1) = vlocked x by rw [get_locked]; rfl] at P
  generalize vlocked x = r at *
  go_enter Try.func9, Try.ntmps9
  go_wp2_with fail
  refine (P.out _).mono ?_
  rintro e w' ⟨rfl, rfl⟩
  go_wp2_with fail
  go_ret
  exact ⟨rfl, rfl⟩
set_option maxHeartbeats 400000 in
theorem vdead_any (x : Int) (w : World) (hx : W64 x) : Calls Try.prog 10 #[.int .u64 x] w fun e w' => e = .returned (.bool (vdead x)) ∧ w = w' := by
  have P := hide (fun w => bit_any x 1 w hx ⟨by omega, by omega⟩)
  rw [show (fget x 1 1 == 1) = vdead x by rw [get_dead]; rfl] at P
  generalize vdead x = r at *
  go_enter Try.func10, Try.ntmps10
  go_wp2_with fail
  refine (P.out _).mono ?_
  rintro e w' ⟨rfl, rfl⟩
  go_wp2_with fail
  go_ret
  exact ⟨rfl, rfl⟩

theorem vcnt_bound (x : Int) : 0 ≤ vcnt x ∧ vcnt x < 274877906944 := by unfold vcnt; omega
theorem vgen_bound {x : Int} (h : W64 x) : 0 ≤ vgen x ∧ vgen x < 16777216 := by obtain ⟨h1, h2⟩ := h; unfold vgen; omega

set_option maxHeartbeats 400000 in
theorem vcounted_any (x : Int) (w : World) (hx : W64 x) : Calls Try.prog 34 #[.int .u64 x] w fun e w' => e = .returned (.int .u64 (vcounted x)) ∧ w = w' := by
  have G := hide (fun w => vcnt_any x w hx)
  obtain ⟨b1, b2⟩ := vcnt_bound x
  have P := hide (fun w => put_any x 2 38 (vcnt x + 1) w hx ⟨by omega, by omega⟩ ⟨by omega, by omega⟩ ⟨by omega, by omega⟩)
  rw [put_cnt hx] at P
  generalize vcounted x = r at *
  generalize vcnt x = c at *
  go_enter Try.func34, Try.ntmps34
  go_wp2_with fail
  refine (G.out _).mono ?_
  rintro e w' ⟨rfl, rfl⟩
  go_wp2_with fail
  refine (P.out _).mono ?_
  rintro e w' ⟨rfl, rfl⟩
  go_wp2_with fail
  go_ret
  exact ⟨rfl, rfl⟩

set_option maxHeartbeats 400000 in
theorem vanew_any (x : Int) (w : World) (hx : W64 x) : Calls Try.prog 36 #[.int .u64 x] w fun e w' => e = .returned (.int .u64 (vanew x)) ∧ w = w' := by
  have P1 := hide (fun w => put_any x 1 1 0 w hx ⟨by omega, by omega⟩ ⟨by omega, by omega⟩ ⟨by omega, by omega⟩)
  rw [put_live hx] at P1
  have G := hide (fun w => vgen_any x w hx)
  obtain ⟨b1, b2⟩ := vgen_bound hx
  have P := hide (fun w => put_any (vlive x) 40 24 (vgen x + 1) w (vpack_bound _ _ _ _) ⟨by omega, by omega⟩ ⟨by omega, by omega⟩ ⟨by omega, by omega⟩)
  rw [put_anew hx] at P
  generalize vanew x = r at *
  generalize vlive x = y at *
  generalize vgen x = c at *
  go_enter Try.func36, Try.ntmps36
  go_wp2_with fail
  refine (P1.out _).mono ?_
  rintro e w' ⟨rfl, rfl⟩
  go_wp2_with fail
  refine (G.out _).mono ?_
  rintro e w' ⟨rfl, rfl⟩
  go_wp2_with fail
  refine (P.out _).mono ?_
  rintro e w' ⟨rfl, rfl⟩
  go_wp2_with fail
  go_ret
  exact ⟨rfl, rfl⟩

def AfterIn (vs : Nat → Int) (n : Nat) (w : World) (x i : Value) (wr : World) : Prop :=
  ∃ k : Nat, k ≤ n ∧ i = .int .i64 k ∧ x = .int .u64 (vs k) ∧ Below w.heap.size w wr

set_option maxHeartbeats 1000000 in
theorem after_any (fs : List FuncId) (vs : Nat → Int) (g n : Nat) (t : TypeId) (w : World) (hn : fs.length = n) (hs : n ≤ 3)
    (hb : Blk w g t (fs.map fun f => Value.func (.func f) #[] #[]).toArray)
    (hcf : ∀ f ∈ fs, ∀ args w', (callFunc f args).run Try.prog w' = .ok (.enter f args) w')
    (hcalls : ∀ i (h : i < fs.length) w', Below w.heap.size w w' → Calls Try.prog fs[i] #[.int .u64 (vs i)] w' fun e w'' => e = .returned (.int .u64 (vs (i + 1))) ∧ Below w'.heap.size w' w'') :
    Calls Try.prog 33 #[.int .u64 (vs 0), .slice (some ⟨g, 0, none⟩) n n] w fun e w' => e = .returned (.int .u64 (vs n)) ∧ Below w.heap.size w w' := by
  have HC := hide hcalls
  have HF := hide hcf
  clear hcalls hcf
  go_enter Try.func33, Try.ntmps33
  go_wp2_with fail
  go_loopw [0, 9] (AfterIn vs n w) (fun _ i _ => 10 - (intOf i).toNat)
  case atStart => exact ⟨0, by omega, rfl, rfl, Below.refl _ _⟩
  case round =>
    obtain ⟨k, hk, rfl, rfl, hbl⟩ := hrel
    by_cases c : k < n
    · have hkl : k < fs.length := by omega
      have b1 := hb.below hbl hb.lt
      have c1 := b1.cell k
      have e1 : ((fs.map fun f => Value.func (.func f) #[] #[]).toArray)[k]? = some (.func (.func fs[k]) #[] #[]) := by simp [hkl]
      rw [e1] at c1
      have hcf := HF.out fs[k] (List.getElem_mem hkl)
      have K := hide (HC.out k hkl wr hbl)
      clear e1
      generalize vs k = x at *
      generalize fs[k] = f at *
      go_wp2_with fail
      refine K.out.mono ?_
      rintro e w2 ⟨rfl, hb2⟩
      go_wp2_with fail
      go_roundw
      case rel => exact ⟨k + 1, by omega, by go_num, rfl, hbl.trans (hb2.mono hbl.size)⟩
      case measure => simp [intOf]; omega
    · obtain rfl : k = n := by omega
      go_wp2_with fail
      go_ret
      exact ⟨rfl, hbl⟩

theorem after2 (f1 f2 : FuncId) (x y z : Int) (g : Nat) (t : TypeId) (w : World) (hb : Blk w g t #[.func (.func f1) #[] #[], .func (.func f2) #[] #[]])
    (c1 : ∀ args w', (callFunc f1 args).run Try.prog w' = .ok (.enter f1 args) w') (c2 : ∀ args w', (callFunc f2 args).run Try.prog w' = .ok (.enter f2 args) w')
    (h1 : ∀ w', Calls Try.prog f1 #[.int .u64 x] w' fun e w'' => e = .returned (.int .u64 y) ∧ Below w'.heap.size w' w'')
    (h2 : ∀ w', Calls Try.prog f2 #[.int .u64 y] w' fun e w'' => e = .returned (.int .u64 z) ∧ Below w'.heap.size w' w'') :
    Calls Try.prog 33 #[.int .u64 x, .slice (some ⟨g, 0, none⟩) 2 2] w fun e w' => e = .returned (.int .u64 z) ∧ Below w.heap.size w w' := by
  refine after_any [f1, f2] (fun i => ([x, y, z] : List Int).getD i 0) g 2 t w rfl (by omega) hb ?_ ?_
  · intro f hf
    simp only [List.mem_cons, List.not_mem_nil, or_false] at hf
    rcases hf with rfl | rfl
    · exact c1
    · exact c2
  · intro i h w' _
    match i, h with
    | 0, _ => exact h1 w'
    | 1, _ => exact h2 w'
    | n + 2, h => exact absurd h (by simp)
theorem after3 (f1 f2 f3 : FuncId) (x y z r : Int) (g : Nat) (t : TypeId) (w : World) (hb : Blk w g t #[.func (.func f1) #[] #[], .func (.func f2) #[] #[], .func (.func f3) #[] #[]])
    (c1 : ∀ args w', (callFunc f1 args).run Try.prog w' = .ok (.enter f1 args) w') (c2 : ∀ args w', (callFunc f2 args).run Try.prog w' = .ok (.enter f2 args) w')
    (c3 : ∀ args w', (callFunc f3 args).run Try.prog w' = .ok (.enter f3 args) w')
    (h1 : ∀ w', Calls Try.prog f1 #[.int .u64 x] w' fun e w'' => e = .returned (.int .u64 y) ∧ Below w'.heap.size w' w'')
    (h2 : ∀ w', Calls Try.prog f2 #[.int .u64 y] w' fun e w'' => e = .returned (.int .u64 z) ∧ Below w'.heap.size w' w'')
    (h3 : ∀ w', Calls Try.prog f3 #[.int .u64 z] w' fun e w'' => e = .returned (.int .u64 r) ∧ Below w'.heap.size w' w'') :
    Calls Try.prog 33 #[.int .u64 x, .slice (some ⟨g, 0, none⟩) 3 3] w fun e w' => e = .returned (.int .u64 r) ∧ Below w.heap.size w w' := by
  refine after_any [f1, f2, f3] (fun i => ([x, y, z, r] : List Int).getD i 0) g 3 t w rfl (by omega) hb ?_ ?_
  · intro f hf
    simp only [List.mem_cons, List.not_mem_nil, or_false] at hf
    rcases hf with rfl | rfl | rfl
    · exact c1
    · exact c2
    · exact c3
  · intro i h w' _
    match i, h with
    | 0, _ => exact h1 w'
    | 1, _ => exact h2 w'
    | 2, _ => exact h3 w'
    | n + 3, h => exact absurd h (by simp)

theorem same_below {r : Value} {w : World} {e : Ending} {w' : World} (h : e = .returned r ∧ w = w') : e = .returned r ∧ Below w.heap.size w w' := ⟨h.1, h.2 ▸ Below.refl _ _⟩

set_option maxHeartbeats 400000 in
theorem vbump_any (x : Int) (w : World) (hx : W64 x) : Calls Try.prog 18 #[.int .u64 x] w fun e w' => e = .returned (.int .u64 (vbump x)) ∧ Below w.heap.size w w' := by
  have K := hide (fun g t w hb => after2 34 16 x (vcounted x) (vbump x) g t w hb
    (fun args w' => run_enter Try.func34 (by decide) (by simp [Try.f34]) args w')
    (fun args w' => run_enter Try.func16 (by decide) (by simp [Try.f16]) args w')
    (fun w => (vcounted_any x w hx).mono fun _ _ => same_below)
    (fun w => by rw [← vbump_eq]; exact (vundo_any (vcounted x) w (vpack_bound _ _ _ _)).mono fun _ _ => same_below))
  generalize vbump x = r at *
  go_enter Try.func18, Try.ntmps18
  go_wp2_with fail
  refine (K.out _ _ _ (Blk.new _ _ _)).mono ?_
  rintro e w' ⟨rfl, hb⟩
  go_wp2_with fail
  go_ret
  exact ⟨rfl, ((Below.refl _ _).alloc (Nat.le_refl _) _).trans (hb.mono (by simp only [World.size_alloc]; omega))⟩

set_option maxHeartbeats 400000 in
theorem vkill_any (x : Int) (w : World) (hx : W64 x) : Calls Try.prog 20 #[.int .u64 x] w fun e w' => e = .returned (.int .u64 (vkill x)) ∧ Below w.heap.size w w' := by
  have K := hide (fun g t w hb => after2 18 35 x (vbump x) (vkill x) g t w hb
    (fun args w' => run_enter Try.func18 (by decide) (by simp [Try.f18]) args w')
    (fun args w' => run_enter Try.func35 (by decide) (by simp [Try.f35]) args w')
    (fun w => vbump_any x w hx)
    (fun w => by rw [← vkill_eq]; exact (vdie_any (vbump x) w (vpack_bound _ _ _ _)).mono fun _ _ => same_below))
  generalize vkill x = r at *
  go_enter Try.func20, Try.ntmps20
  go_wp2_with fail
  refine (K.out _ _ _ (Blk.new _ _ _)).mono ?_
  rintro e w' ⟨rfl, hb⟩
  go_wp2_with fail
  go_ret
  exact ⟨rfl, ((Below.refl _ _).alloc (Nat.le_refl _) _).trans (hb.mono (by simp only [World.size_alloc]; omega))⟩

set_option maxHeartbeats 400000 in
theorem vrenew_any (x : Int) (w : World) (hx : W64 x) : Calls Try.prog 22 #[.int .u64 x] w fun e w' => e = .returned (.int .u64 (vrenew x)) ∧ Below w.heap.size w w' := by
  have K := hide (fun g t w hb => after3 34 14 36 x (vcounted x) (vlock (vcounted x)) (vrenew x) g t w hb
    (fun args w' => run_enter Try.func34 (by decide) (by simp [Try.f34]) args w')
    (fun args w' => run_enter Try.func14 (by decide) (by simp [Try.f14]) args w')
    (fun args w' => run_enter Try.func36 (by decide) (by simp [Try.f36]) args w')
    (fun w => (vcounted_any x w hx).mono fun _ _ => same_below)
    (fun w => (vlock_any (vcounted x) w (vpack_bound _ _ _ _)).mono fun _ _ => same_below)
    (fun w => by rw [← vrenew_eq]; exact (vanew_any (vlock (vcounted x)) w (vpack_bound _ _ _ _)).mono fun _ _ => same_below))
  generalize vrenew x = r at *
  go_enter Try.func22, Try.ntmps22
  go_wp2_with fail
  refine (K.out _ _ _ (Blk.new _ _ _)).mono ?_
  rintro e w' ⟨rfl, hb⟩
  go_wp2_with fail
  go_ret
  exact ⟨rfl, ((Below.refl _ _).alloc (Nat.le_refl _) _).trans (hb.mono (by simp only [World.size_alloc]; omega))⟩
end Go.Proofs.Ytigjnnedkdmahaa
