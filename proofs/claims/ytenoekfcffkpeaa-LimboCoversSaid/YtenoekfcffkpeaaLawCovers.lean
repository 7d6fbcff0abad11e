/-
  LimboCovers holds: for every input its Go function returns true and leaves its arguments as they were. No condition.
-/
import Derived.Test.YtenoekfcffkpeaaLift
import Derived.Test.YtenoekfcffkpeaaOpen
import Derived.Test.YtenoekfcffkpeaaLimboA
import Derived.Test.YtenoekfcffkpeaaCovRef
namespace Go.Proofs.Ytenoekfcffkpeaa
open Go.ChangeShapes Go.WideShapes Go.ChangeAt Go.RowKit

set_option maxHeartbeats 800000 in
theorem LimboCovers_calls (A B : Option Addr) (n c m d : Nat) (l hz : List Int) (w : World) (hn : n ≤ maxLen) (hm : m ≤ maxLen) (hr : Reads w w.heap.size 1 A n (ints .u64 l)) (hrz : Reads w w.heap.size 1 B m (ints .u64 hz))
    (hwl : ∀ x ∈ l, (Lit.int .u64 x).wf = true) (hwz : ∀ x ∈ hz, (Lit.int .u64 x).wf = true) :
    Calls Try.prog 5 #[.slice A n c, .slice B m d] w fun r w' => r = .returned (.bool true) ∧ Below w.heap.size w w' := by
  unfold maxLen at hn hm
  by_cases h1 : 100 < n
  · go_enter Try.func5, Try.ntmps5
    go_wp2_with fail
    refine (awake_any _).mono ?_
    rintro e w5 ⟨rfl, hb5⟩
    go_wp2_with fail
    go_ret
    exact ⟨rfl, hb5⟩
  by_cases h2 : 100 < m
  · have h1' : n ≤ 100 := by omega
    clear h1
    go_enter Try.func5, Try.ntmps5
    go_wp2_with fail
    refine (awake_any _).mono ?_
    rintro e w5 ⟨rfl, hb5⟩
    go_wp2_with fail
    go_ret
    exact ⟨rfl, hb5⟩
  have h1' : n ≤ 100 := by omega
  have h2' : m ≤ 100 := by omega
  clear h1 h2 hn hm
  have F1 := hide (show l.filter (fun x => coverB hz x == true) = l.filter (coverB hz) by simp)
  have F2 := hide (show l.filter (fun x => coverB hz x == false) = l.filter (fun x => !coverB hz x) by simp)
  have L1 := hide (show (l.filter (coverB hz)).length ≤ 4294967296 by have := List.length_filter_le (coverB hz) l; have := hr.lenWord; omega)
  have L2 := hide (show (l.filter fun x => !coverB hz x).length ≤ 4294967296 by have := List.length_filter_le (fun x => !coverB hz x) l; have := hr.lenWord; omega)
  go_enter Try.func5, Try.ntmps5
  go_wp2_with fail
  refine (Covered_any A B n c m d l hz w (by omega) (by omega) hr hrz hwl hwz).mono ?_
  rintro e w1 ⟨⟨A1, n1, c1, A2, n2, c2, rfl, e1, e2, r1, r2⟩, hb1⟩
  subst e1 e2
  go_wp2_with fail
  refine (CovRef_any A B n c m d l hz true w1 (by omega) (by omega) ((hr.below hb1).more hb1.size) ((hrz.below hb1).more hb1.size)).mono ?_
  rintro e w2 ⟨⟨A3, n3, c3, rfl, e3, r3⟩, hb2⟩
  rw [F1.out] at e3 r3
  subst e3
  have B2 := hb1.trans (hb2.mono hb1.size)
  go_wp2_with fail
  refine (Words_eq A1 A3 _ c1 c3 (l.filter (coverB hz)) w2 L1.out ((r1.below hb2).more hb2.size) r3).mono ?_
  rintro e w3 ⟨rfl, hb3⟩
  have B3 := B2.trans (hb3.mono B2.size)
  have C3 := hb2.trans (hb3.mono hb2.size)
  go_wp2_with fail
  refine (CovRef_any A B n c m d l hz false w3 (by omega) (by omega) ((hr.below B3).more B3.size) ((hrz.below B3).more B3.size)).mono ?_
  rintro e w4 ⟨⟨A4, n4, c4, rfl, e4, r4⟩, hb4⟩
  rw [F2.out] at e4 r4
  subst e4
  have B4 := B3.trans (hb4.mono B3.size)
  have C4 := C3.trans (hb4.mono C3.size)
  go_wp2_with fail
  refine (Words_eq A2 A4 _ c2 c4 (l.filter fun x => !coverB hz x) w4 L2.out ((r2.below C4).more C4.size) r4).mono ?_
  rintro e w5 ⟨rfl, hb5⟩
  have B5 := B4.trans (hb5.mono B4.size)
  go_wp2_with fail
  refine (awake_any _).mono ?_
  rintro e w6 ⟨rfl, hb6⟩
  go_wp2_with fail
  go_ret
  exact ⟨rfl, B5.trans (hb6.mono B5.size)⟩

set_option maxRecDepth 100000 in
theorem limboCovers_lifted (os : Os) (started : os.Started) (H : Type) (enc : TypeId × Value → H) :
    ReturnsInHanded {} Try.checked os 5 .any (Rows.limboCoversSpec.pre6 enc Try.prog Try.f5 Rows.limboCoversRow.domain false) (Rows.limboCoversSpec.post enc Try.prog Try.f5 false true false false) := by
  refine lift started 2 (by kernel_rfl) Try.func5 rfl rfl (fun ds hl => ?_) (by kernel_rfl) rfl #[.slice none 0 0, .slice none 0 0] (by kernel_rfl) (by kernel_rfl) (by kernel_rfl) (by kernel_rfl) (by kernel_rfl) ?_
  · match ds, hl with
    | [_, _], _ => rfl
  intro W base args ds ps hval0 hA0 hlt
  have hval : ∀ (j : Nat) t v, Try.f5.params[j]? = some t → args[j]? = some v → Value.okWide Try.prog W .any base t v := hval0
  have hA : DataW.TrodAll enc Try.prog W 0 (fun _ => true) true Try.f5.params.toList args.toList ds ps := hA0
  rw [Try.params5] at hA hval
  clear hA0 hval0
  obtain ⟨v0, v1, d0, d1, p0, p1, rfl, rfl, rfl, h0, h1⟩ := trodAll_two hA
  obtain ⟨A, n, c, l, rfl, hnc, hcm, hl, hr, hw⟩ := open_words Try.underlying33 Try.underlying26 (by kernel_rfl) (hval 0 _ _ rfl rfl) h0 (fun p hp => hlt p (by simp [hp])) (fun _ => rfl)
  obtain ⟨B, m, d, hz, rfl, hmd, hdm, hlz, hrz, hwz⟩ := open_words Try.underlying33 Try.underlying26 (by kernel_rfl) (hval 1 _ _ rfl rfl) h1 (fun p hp => hlt p (by simp [hp])) (fun _ => rfl)
  exact LimboCovers_calls A B n c m d l hz W (Nat.le_trans hnc hcm) (Nat.le_trans hmd hdm) hr hrz hw hwz
theorem limboCovers_holds : Rows.LimboCoversSaid :=
  OpenClaim.holds_of_wide 5 Try.f5 rfl rfl rfl rfl rfl rfl rfl ⟨rfl, rfl, rfl, rfl, rfl⟩ rfl rfl rfl rfl rfl (by kernel_rfl) Try.func5 (by kernel_rfl)
    (of_decide_eq_true (by kernel_rfl)) (by unfold Func.isWrapper; first | (rw [if_pos (by decide +kernel)]; kernel_rfl) | (rw [if_neg (by decide +kernel)]; exact ⟨rfl, rfl⟩))
    (fun os started H enc _ => limboCovers_lifted os started H enc)
#print axioms limboCovers_holds
end Go.Proofs.Ytenoekfcffkpeaa
