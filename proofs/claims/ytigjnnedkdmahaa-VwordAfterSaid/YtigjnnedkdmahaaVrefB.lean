/-
  Package gleaningref04: turns.
-/
import Derived.Test.YtigjnnedkdmahaaVref
namespace Go.Proofs.Ytigjnnedkdmahaa
open Go.RowKit

set_option maxHeartbeats 1000000 in
theorem rlock_any (x : Int) (w : World) (hx : W64 x) : Calls Try.prog 15 #[.int .u64 x] w fun e w' => e = .returned (.int .u64 (vlock x)) ∧ Below w.heap.size w w' := by
  have O := hide (rof_any x w hx)
  obtain ⟨b1, b2⟩ := vcnt_bound x
  obtain ⟨b3, b4⟩ := vgen_bound hx
  have Wd := hide (fun w => rword_any true (vdead x) (vcnt x) (vgen x) w ⟨by omega, by omega⟩ ⟨by omega, by omega⟩)
  rw [show vpack (vgen x) (vcnt x) (vdead x) true = vlock x from rfl] at Wd
  unfold vagg at O
  generalize vlock x = r at *
  generalize vlocked x = l at *
  generalize vdead x = d at *
  generalize vcnt x = c at *
  generalize vgen x = g at *
  go_enter Try.func15, Try.ntmps15
  go_wp2_with fail
  refine O.out.mono ?_
  rintro e w1 ⟨rfl, hb1⟩
  go_wp2_with fail
  refine (Wd.out _).mono ?_
  rintro e w2 ⟨rfl, hb2⟩
  go_wp2_with fail
  go_ret
  exact ⟨rfl, (hb1.alloc hb1.size _).trans (hb2.mono (by have := hb1.size; simp only [World.size_alloc]; omega))⟩
set_option maxHeartbeats 1000000 in
theorem rundo_any (x : Int) (w : World) (hx : W64 x) : Calls Try.prog 17 #[.int .u64 x] w fun e w' => e = .returned (.int .u64 (vundo x)) ∧ Below w.heap.size w w' := by
  have O := hide (rof_any x w hx)
  obtain ⟨b1, b2⟩ := vcnt_bound x
  obtain ⟨b3, b4⟩ := vgen_bound hx
  have Wd := hide (fun w => rword_any false (vdead x) (vcnt x) (vgen x) w ⟨by omega, by omega⟩ ⟨by omega, by omega⟩)
  rw [show vpack (vgen x) (vcnt x) (vdead x) false = vundo x from rfl] at Wd
  unfold vagg at O
  generalize vundo x = r at *
  generalize vlocked x = l at *
  generalize vdead x = d at *
  generalize vcnt x = c at *
  generalize vgen x = g at *
  go_enter Try.func17, Try.ntmps17
  go_wp2_with fail
  refine O.out.mono ?_
  rintro e w1 ⟨rfl, hb1⟩
  go_wp2_with fail
  refine (Wd.out _).mono ?_
  rintro e w2 ⟨rfl, hb2⟩
  go_wp2_with fail
  go_ret
  exact ⟨rfl, (hb1.alloc hb1.size _).trans (hb2.mono (by have := hb1.size; simp only [World.size_alloc]; omega))⟩
set_option maxHeartbeats 1000000 in
theorem rbump_any (x : Int) (w : World) (hx : W64 x) : Calls Try.prog 19 #[.int .u64 x] w fun e w' => e = .returned (.int .u64 (vbump x)) ∧ Below w.heap.size w w' := by
  have O := hide (rof_any x w hx)
  obtain ⟨b1, b2⟩ := vcnt_bound x
  obtain ⟨b3, b4⟩ := vgen_bound hx
  have Wd := hide (fun w => rword_any false (vdead x) (vcnt x + 1) (vgen x) w ⟨by omega, by omega⟩ ⟨by omega, by omega⟩)
  rw [show vpack (vgen x) (vcnt x + 1) (vdead x) false = vbump x from rfl] at Wd
  unfold vagg at O
  generalize vbump x = r at *
  generalize vlocked x = l at *
  generalize vdead x = d at *
  generalize vcnt x = c at *
  generalize vgen x = g at *
  go_enter Try.func19, Try.ntmps19
  go_wp2_with fail
  refine O.out.mono ?_
  rintro e w1 ⟨rfl, hb1⟩
  go_wp2_with fail
  refine (Wd.out _).mono ?_
  rintro e w2 ⟨rfl, hb2⟩
  go_wp2_with fail
  go_ret
  exact ⟨rfl, (hb1.alloc hb1.size _).trans (hb2.mono (by have := hb1.size; simp only [World.size_alloc]; omega))⟩
set_option maxHeartbeats 1000000 in
theorem rkill_any (x : Int) (w : World) (hx : W64 x) : Calls Try.prog 21 #[.int .u64 x] w fun e w' => e = .returned (.int .u64 (vkill x)) ∧ Below w.heap.size w w' := by
  have O := hide (rof_any x w hx)
  obtain ⟨b1, b2⟩ := vcnt_bound x
  obtain ⟨b3, b4⟩ := vgen_bound hx
  have Wd := hide (fun w => rword_any false true (vcnt x + 1) (vgen x) w ⟨by omega, by omega⟩ ⟨by omega, by omega⟩)
  rw [show vpack (vgen x) (vcnt x + 1) true false = vkill x from rfl] at Wd
  unfold vagg at O
  generalize vkill x = r at *
  generalize vlocked x = l at *
  generalize vdead x = d at *
  generalize vcnt x = c at *
  generalize vgen x = g at *
  go_enter Try.func21, Try.ntmps21
  go_wp2_with fail
  refine O.out.mono ?_
  rintro e w1 ⟨rfl, hb1⟩
  go_wp2_with fail
  refine (Wd.out _).mono ?_
  rintro e w2 ⟨rfl, hb2⟩
  go_wp2_with fail
  go_ret
  exact ⟨rfl, (hb1.alloc hb1.size _).trans (hb2.mono (by have := hb1.size; simp only [World.size_alloc]; omega))⟩
set_option maxHeartbeats 1000000 in
theorem rrenew_any (x : Int) (w : World) (hx : W64 x) : Calls Try.prog 23 #[.int .u64 x] w fun e w' => e = .returned (.int .u64 (vrenew x)) ∧ Below w.heap.size w w' := by
  have O := hide (rof_any x w hx)
  obtain ⟨b1, b2⟩ := vcnt_bound x
  obtain ⟨b3, b4⟩ := vgen_bound hx
  have Wd := hide (fun w => rword_any true false (vcnt x + 1) (vgen x + 1) w ⟨by omega, by omega⟩ ⟨by omega, by omega⟩)
  rw [show vpack (vgen x + 1) (vcnt x + 1) false true = vrenew x from rfl] at Wd
  unfold vagg at O
  generalize vrenew x = r at *
  generalize vlocked x = l at *
  generalize vdead x = d at *
  generalize vcnt x = c at *
  generalize vgen x = g at *
  go_enter Try.func23, Try.ntmps23
  go_wp2_with fail
  refine O.out.mono ?_
  rintro e w1 ⟨rfl, hb1⟩
  go_wp2_with fail
  refine (Wd.out _).mono ?_
  rintro e w2 ⟨rfl, hb2⟩
  go_wp2_with fail
  go_ret
  exact ⟨rfl, (hb1.alloc hb1.size _).trans (hb2.mono (by have := hb1.size; simp only [World.size_alloc]; omega))⟩

/-- How a node is begun. -/
def hgenOf (h : Int) : Int := h / 65536 % 16777216
def vstale (h x : Int) : Bool := vgen x != hgenOf h || vdead x
def vbegin (h x : Int) : Int := if vstale h x = true then 1 else if vlocked x = true then 2 else 3
theorem fget_hgen (h : Int) : fget h 16 24 = hgenOf h := by
  have h1 := fget_at h 16 24 (by omega)
  unfold hgenOf
  simpa using h1

set_option maxHeartbeats 400000 in
theorem hdlgen_any (h : Int) (w : World) (hh : W64 h) : Calls Try.prog 37 #[.int .u64 h] w fun e w' => e = .returned (.int .u64 (hgenOf h)) ∧ w = w' := by
  have P := hide (fun w => get_any h 16 24 w hh ⟨by omega, by omega⟩ ⟨by omega, by omega⟩)
  rw [fget_hgen] at P
  generalize hgenOf h = r at *
  go_enter Try.func37, Try.ntmps37
  go_wp2_with fail
  refine (P.out _).mono ?_
  rintro e w' ⟨rfl, rfl⟩
  go_wp2_with fail
  go_ret
  exact ⟨rfl, rfl⟩

def hdlmake (gen slot : Int) : Int := fput slot 16 24 gen
set_option maxHeartbeats 400000 in
theorem hdlmake_any (gen slot : Int) (w : World) (hg : W64 gen) (hs : 1 ≤ slot ∧ slot ≤ 65535) :
    Calls Try.prog 32 #[.int .u64 gen, .int .i64 slot] w fun e w' => e = .returned (.int .u64 (hdlmake gen slot)) ∧ w = w' := by
  have P := hide (fun w => put_any slot 16 24 gen w ⟨by omega, by omega⟩ ⟨by omega, by omega⟩ ⟨by omega, by omega⟩ hg)
  rw [show fput slot 16 24 gen = hdlmake gen slot from rfl] at P
  generalize hdlmake gen slot = r at *
  obtain ⟨h1, h2⟩ := hs
  go_enter Try.func32, Try.ntmps32
  go_wp2_with fail
  refine (P.out _).mono ?_
  rintro e w' ⟨rfl, rfl⟩
  go_wp2_with fail
  go_ret
  exact ⟨rfl, rfl⟩

set_option maxHeartbeats 1000000 in
theorem vbegin_any (h x : Int) (w : World) (hh : W64 h) (hx : W64 x) : Calls Try.prog 24 #[.int .u64 h, .int .u64 x] w fun e w' => e = .returned (.int .i64 (vbegin h x)) ∧ w = w' := by
  have G := hide (fun w => vgen_any x w hx)
  have H := hide (fun w => hdlgen_any h w hh)
  have D := hide (fun w => vdead_any x w hx)
  have L := hide (fun w => vlocked_any x w hx)
  have E := hide (show vbegin h x = if (vgen x != hgenOf h || vdead x) = true then 1 else if vlocked x = true then 2 else 3 from rfl)
  generalize vbegin h x = R at *
  generalize vgen x = g at *
  generalize hgenOf h = k at *
  generalize vdead x = d at *
  generalize vlocked x = l at *
  by_cases hk : g = k
  · have hq : (g != k) = false := by simp [hk]
    have hq2 : (g == k) = true := by simp [hk]
    cases d <;> cases l
    all_goals
      go_enter Try.func24, Try.ntmps24
      go_wp2_with fail
      refine (G.out _).mono ?_
      rintro e w' ⟨rfl, rfl⟩
      go_wp2_with fail
      refine (H.out _).mono ?_
      rintro e w' ⟨rfl, rfl⟩
      go_wp2_with fail
      refine (D.out _).mono ?_
      rintro e w' ⟨rfl, rfl⟩
      go_wp2_with fail
      try (refine (L.out _).mono ?_; rintro e w' ⟨rfl, rfl⟩; go_wp2_with fail)
      go_ret
      exact ⟨by rw [E.out, hq]; rfl, rfl⟩
  · have hq : (g != k) = true := by simp [hk]
    have hq2 : (g == k) = false := by simp [hk]
    go_enter Try.func24, Try.ntmps24
    go_wp2_with fail
    refine (G.out _).mono ?_
    rintro e w' ⟨rfl, rfl⟩
    go_wp2_with fail
    refine (H.out _).mono ?_
    rintro e w' ⟨rfl, rfl⟩
    go_wp2_with fail
    go_ret
    exact ⟨by rw [E.out, hq]; rfl, rfl⟩

set_option maxHeartbeats 1000000 in
theorem rbegin_any (h x : Int) (w : World) (hh : W64 h) (hx : W64 x) : Calls Try.prog 25 #[.int .u64 h, .int .u64 x] w fun e w' => e = .returned (.int .i64 (vbegin h x)) ∧ Below w.heap.size w w' := by
  have O := hide (rof_any x w hx)
  have E := hide (show vbegin h x = if (vgen x != h / 65536 % 16777216 || vdead x) = true then 1 else if vlocked x = true then 2 else 3 from rfl)
  obtain ⟨h1, h2⟩ := hh
  have t2 : h.tdiv 65536 = h / 65536 := Int.tdiv_eq_ediv_of_nonneg h1
  have t3 : (h / 65536).tmod 16777216 = h / 65536 % 16777216 := Int.tmod_eq_emod_of_nonneg (by omega)
  have b3 : 0 ≤ h / 65536 % 16777216 ∧ h / 65536 % 16777216 < 16777216 := by omega
  have b4 : 0 ≤ h / 65536 ∧ h / 65536 < 18446744073709551616 := by omega
  unfold vagg at O
  generalize vbegin h x = R at *
  generalize vgen x = g at *
  generalize h / 65536 % 16777216 = k at *
  generalize h / 65536 = y at *
  generalize vdead x = d at *
  generalize vlocked x = l at *
  generalize vcnt x = c at *
  by_cases hk : g = k
  · have hq : (g != k) = false := by simp [hk]
    have hq2 : (g == k) = true := by simp [hk]
    cases d <;> cases l
    all_goals
      go_enter Try.func25, Try.ntmps25
      go_wp2_with fail
      refine O.out.mono ?_
      rintro e w1 ⟨rfl, hb1⟩
      go_wp2_with fail
      go_ret
      exact ⟨by rw [E.out, hq]; rfl, hb1.alloc hb1.size _⟩
  · have hq : (g != k) = true := by simp [hk]
    have hq2 : (g == k) = false := by simp [hk]
    go_enter Try.func25, Try.ntmps25
    go_wp2_with fail
    refine O.out.mono ?_
    rintro e w1 ⟨rfl, hb1⟩
    go_wp2_with fail
    go_ret
    exact ⟨by rw [E.out, hq]; rfl, hb1.alloc hb1.size _⟩

set_option maxHeartbeats 1000000 in
theorem vawake_any (w : World) : Calls Try.prog 13 #[] w fun e w' => e = .returned (.bool true) ∧ Below w.heap.size w w' := by
  have i1 : W64 1 := ⟨by omega, by omega⟩
  have i2 : W64 2 := ⟨by omega, by omega⟩
  have M := hide (fun w => vmake_any 1 2 false true w i1 i2)
  rw [show vpack 1 2 false true = 1099511627785 by decide] at M
  have x1 : W64 1099511627785 := ⟨by omega, by omega⟩
  have Bm := hide (fun w => vbump_any 1099511627785 w x1)
  rw [show vbump 1099511627785 = 1099511627788 by decide] at Bm
  have Kl := hide (fun w => vkill_any 1099511627785 w x1)
  rw [show vkill 1099511627785 = 1099511627790 by decide] at Kl
  have Hm := hide (fun w => hdlmake_any 1 7 w i1 ⟨by omega, by omega⟩)
  rw [show hdlmake 1 7 = 65543 by decide] at Hm
  have Bg := hide (fun w => vbegin_any 65543 1099511627790 w ⟨by omega, by omega⟩ ⟨by omega, by omega⟩)
  rw [show vbegin 65543 1099511627790 = 1 by decide] at Bg
  go_enter Try.func13, Try.ntmps13
  go_wp2_with fail
  refine (M.out _).mono ?_
  rintro e w' ⟨rfl, rfl⟩
  go_wp2_with fail
  refine (Bm.out _).mono ?_
  rintro e w1 ⟨rfl, hb1⟩
  go_wp2_with fail
  refine (Hm.out _).mono ?_
  rintro e w' ⟨rfl, rfl⟩
  go_wp2_with fail
  refine (Kl.out _).mono ?_
  rintro e w2 ⟨rfl, hb2⟩
  go_wp2_with fail
  refine (Bg.out _).mono ?_
  rintro e w' ⟨rfl, rfl⟩
  go_wp2_with fail
  go_ret
  exact ⟨rfl, hb1.trans (hb2.mono hb1.size)⟩
end Go.Proofs.Ytigjnnedkdmahaa
