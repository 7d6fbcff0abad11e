/-
  LimboStays holds: for every input its Go function returns true and leaves its arguments as they were. No condition.
-/
import Derived.Test.YtenoekfcffkpeaaLift
import Derived.Test.YtenoekfcffkpeaaOpen
import Derived.Test.YtenoekfcffkpeaaLimboA
import Derived.Lib.SmallJoins
namespace Go.Proofs.Ytenoekfcffkpeaa
open Go.ChangeShapes Go.WideShapes Go.ChangeAt Go.RowKit Go.Joins

set_option maxHeartbeats 800000 in
theorem LimboStays_calls (h e ep later : Int) (w : World) (he : W64 e) (hp : W64 ep) (hla : W64 later) :
    Calls Try.prog 4 #[.agg #[.int .u64 h, .int .u64 e], .int .u64 ep, .int .u64 later] w fun r w' => r = .returned (.bool true) ∧ Below w.heap.size w w' := by
  have he' := he
  have hp' := hp
  have hl' := hla
  obtain ⟨h0, h1⟩ := he'
  obtain ⟨h2, h3⟩ := hp'
  obtain ⟨h4, h5⟩ := hl'
  have KW : ∀ w', Below (w.alloc (.cells #[.int .u64 h, .int .u64 e] 28)).heap.size (w.alloc (.cells #[.int .u64 h, .int .u64 e] 28)) w' →
      w'.cell? ⟨w.heap.size, 0, none⟩ = some (.int .u64 h) ∧ w'.cell? ⟨w.heap.size, 1, none⟩ = some (.int .u64 e) := fun w' h => by
    obtain ⟨h1, _⟩ := bcell h
    rw [h1 _ _ (by simp), h1 _ _ (by simp)]
    simp [go_sem]
  have fin : ∀ w', Below (w.alloc (.cells #[.int .u64 h, .int .u64 e] 28)).heap.size (w.alloc (.cells #[.int .u64 h, .int .u64 e] 28)) w' → Below w.heap.size w w' := fun w' h =>
    ((Below.refl _ _).alloc (Nat.le_refl _) _).trans (h.mono (by simp))
  by_cases hr : e + 2 ≤ ep
  · have e1 : ripeB e ep = true := by simp [ripeB, hr]
    have n1 : (e == ep) = false := beq_eq_false_iff_ne.2 (by omega)
    have n2 : (e == ep - 1) = false := beq_eq_false_iff_ne.2 (by omega)
    by_cases hge : ep ≤ later
    · have e2 : ripeB e later = true := by simp [ripeB]; omega
      go_enter Try.func4, Try.ntmps4
      go_wp2_with fail
      refine (Ripe_any _ _ _ _ he hp).mono ?_
      rintro e w2 ⟨rfl, hb2⟩
      obtain ⟨c0, c1⟩ := KW w2 hb2
      rw [e1]
      go_wp2_with fail
      refine (Ripe_any _ _ _ _ he hla).mono ?_
      rintro e w3 ⟨rfl, hb3⟩
      replace hb3 := hb2.trans (hb3.mono hb2.size)
      clear c0 c1
      obtain ⟨c0, c1⟩ := KW w3 hb3
      rw [e2]
      go_wp2_with fail
      refine (Ripe_any _ _ _ _ he hp).mono ?_
      rintro e w4 ⟨rfl, hb4⟩
      replace hb4 := hb3.trans (hb4.mono hb3.size)
      clear c0 c1
      obtain ⟨c0, c1⟩ := KW w4 hb4
      rw [e1]
      go_wp2_with fail
      refine (awake_any _).mono ?_
      rintro e w5 ⟨rfl, hb5⟩
      replace hb5 := hb4.trans (hb5.mono hb4.size)
      go_wp2_with fail
      go_ret
      exact ⟨rfl, fin _ hb5⟩
    · go_enter Try.func4, Try.ntmps4
      go_wp2_with fail
      refine (Ripe_any _ _ _ _ he hp).mono ?_
      rintro e w2 ⟨rfl, hb2⟩
      obtain ⟨c0, c1⟩ := KW w2 hb2
      rw [e1]
      go_wp2_with fail
      refine (Ripe_any _ _ _ _ he hp).mono ?_
      rintro e w4 ⟨rfl, hb4⟩
      replace hb4 := hb2.trans (hb4.mono hb2.size)
      clear c0 c1
      obtain ⟨c0, c1⟩ := KW w4 hb4
      rw [e1]
      go_wp2_with fail
      refine (awake_any _).mono ?_
      rintro e w5 ⟨rfl, hb5⟩
      replace hb5 := hb4.trans (hb5.mono hb4.size)
      go_wp2_with fail
      go_ret
      exact ⟨rfl, fin _ hb5⟩
  · have e1 : ripeB e ep = false := by simp [ripeB]; omega
    go_enter Try.func4, Try.ntmps4
    go_wp2_with fail
    refine (Ripe_any _ _ _ _ he hp).mono ?_
    rintro e w2 ⟨rfl, hb2⟩
    obtain ⟨c0, c1⟩ := KW w2 hb2
    rw [e1]
    go_wp2_with fail
    refine (Ripe_any _ _ _ _ he hp).mono ?_
    rintro e w4 ⟨rfl, hb4⟩
    replace hb4 := hb2.trans (hb4.mono hb2.size)
    rw [e1]
    go_wp2_with fail
    refine (awake_any _).mono ?_
    rintro e w5 ⟨rfl, hb5⟩
    replace hb5 := hb4.trans (hb5.mono hb4.size)
    go_wp2_with fail
    go_ret
    exact ⟨rfl, fin _ hb5⟩

set_option maxRecDepth 100000 in
theorem limboStays_lifted (os : Os) (started : os.Started) (H : Type) (enc : TypeId × Value → H) :
    ReturnsInHanded {} Try.checked os 4 .any (Rows.limboStaysSpec.pre6 enc Try.prog Try.f4 Rows.limboStaysRow.domain false) (Rows.limboStaysSpec.post enc Try.prog Try.f4 false true false false) := by
  refine lift started 3 (by kernel_rfl) Try.func4 rfl rfl (fun ds hl => ?_) (by kernel_rfl) rfl #[.agg #[.int .u64 0, .int .u64 0], .int .u64 0, .int .u64 0] (by kernel_rfl) (by kernel_rfl) (by kernel_rfl) (by kernel_rfl) (by kernel_rfl) ?_
  · match ds, hl with
    | [_, _, _], _ => rfl
  intro W base args ds ps hval0 hA0 hlt
  have hval : ∀ (j : Nat) t v, Try.f4.params[j]? = some t → args[j]? = some v → Value.okWide Try.prog W .any base t v := hval0
  have hA : DataW.TrodAll enc Try.prog W 0 (fun _ => true) true Try.f4.params.toList args.toList ds ps := hA0
  rw [Try.params4] at hA hval
  clear hA0 hval0
  obtain ⟨v0, v1, v2, d0, d1, d2, p0, p1, p2, rfl, rfl, rfl, h0, h1, h2⟩ := trodAll_three hA
  obtain ⟨x, y, z0, z1, n, rfl, _, _, g0, g1⟩ := open_agg2 Try.underlying28 (by kernel_rfl) (by kernel_rfl) (hval 0 _ _ rfl rfl) h0
  obtain ⟨a, ha, _, wa⟩ := DataW.trod_int Try.underlying26 g0
  obtain ⟨b, hb, _, wb⟩ := DataW.trod_int Try.underlying26 g1
  obtain ⟨ep, rfl, rfl, rfl, we⟩ := open_int Try.underlying26 (hval 1 _ _ rfl rfl) h1
  obtain ⟨la, rfl, rfl, rfl, wl⟩ := open_int Try.underlying26 (hval 2 _ _ rfl rfl) h2
  simp only [List.cons.injEq, and_true] at ha hb
  subst ha hb
  exact LimboStays_calls a b ep la W (W64.of_wf wb) (W64.of_wf we) (W64.of_wf wl)
theorem limboStays_holds : Rows.LimboStaysSaid :=
  OpenClaim.holds_of_wide 4 Try.f4 rfl rfl rfl rfl rfl rfl rfl ⟨rfl, rfl, rfl, rfl, rfl⟩ rfl rfl rfl rfl rfl (by kernel_rfl) Try.func4 (by kernel_rfl)
    (of_decide_eq_true (by kernel_rfl)) (by unfold Func.isWrapper; first | (rw [if_pos (by decide +kernel)]; kernel_rfl) | (rw [if_neg (by decide +kernel)]; exact ⟨rfl, rfl⟩))
    (fun os started H enc _ => limboStays_lifted os started H enc)
#print axioms limboStays_holds
end Go.Proofs.Ytenoekfcffkpeaa
