/-
  Package leaf: rises, Right, spliced.
-/
import Derived.Test.YtogpdgogcjljfaaSlc
import Derived.Test.YtogpdgogcjljfaaPast
namespace Go.Proofs.Ytogpdgogcjljfaa
open Go.RowKit

/-- Each word is greater than the one ahead. -/
def RiseTo (l : List Int) (m : Nat) : Prop := ∀ i, i + 1 < m → l.getD i 0 < l.getD (i + 1) 0
def riseB (l : List Int) : Bool := (List.range (l.length - 1)).all fun i => decide (l.getD i 0 < l.getD (i + 1) 0)
theorem riseB_iff (l : List Int) : riseB l = true ↔ RiseTo l l.length := by
  unfold riseB RiseTo
  simp only [List.all_eq_true, List.mem_range, decide_eq_true_eq]
  exact ⟨fun h i hi => h i (by omega), fun h i hi => h i (by omega)⟩
theorem riseB_no {l : List Int} {i : Nat} (h : i + 1 < l.length) (hx : ¬ l.getD i 0 < l.getD (i + 1) 0) : riseB l = false := by
  rw [Bool.eq_false_iff]
  intro e
  exact hx ((riseB_iff l).1 e i h)
theorem RiseTo.succ {l : List Int} {m : Nat} (h : RiseTo l m) (hx : l.getD (m - 1) 0 < l.getD m 0) (hm : 1 ≤ m) : RiseTo l (m + 1) := by
  intro i hi
  by_cases e : i + 1 = m
  · subst e
    simpa using hx
  · exact h i (by omega)
theorem riseTo_small {l : List Int} {m : Nat} (h : m ≤ 1) : RiseTo l m := fun i hi => by omega

def RisesIn (l : List Int) (w : World) (i : Value) (wr : World) : Prop :=
  ∃ k j : Nat, j = k + 1 ∧ i = .int .i64 (j : Int) ∧ (j ≤ l.length → RiseTo l j) ∧ (l.length ≤ j → RiseTo l l.length) ∧ k ≤ l.length ∧ Below w.heap.size w wr

set_option maxHeartbeats 1000000 in
theorem rises_any (v : Value) (l : List Int) (w : World) (hl : l.length ≤ 1000000) (h : Sl w w.heap.size v l) :
    Calls Try.prog 33 #[v] w fun e w' => e = .returned (.bool (riseB l)) ∧ Below w.heap.size w w' := by
  obtain ⟨A, c, rfl, h1, h2, hr⟩ := h
  go_enter Try.func33, Try.ntmps33
  go_wp2_with fail
  go_loopw [3] (RisesIn l w) (fun i _ => 10000000 - (intOf i).toNat)
  case atStart => exact ⟨0, 1, rfl, rfl, fun _ => riseTo_small (Nat.le_refl _), fun hm => riseTo_small hm, by omega, Below.refl _ _⟩
  case round =>
    obtain ⟨k, j, hj, rfl, s1, s2, hk, hb⟩ := hrel
    have S1 := hide s1
    have S2 := hide s2
    clear s1 s2
    by_cases hlt : j < l.length
    · obtain ⟨a, ea, hkl, z1⟩ := (hr.below hb).word (k := j) (by omega)
      obtain ⟨a2, ea2, hkl2, z2⟩ := (hr.below hb).word (k := k) (by omega)
      rw [ea] at ea2
      injection ea2 with ea2
      subst ea ea2
      have G1 := hide (show l.getD j 0 = l[j] by simp [List.getD, hkl])
      have G2 := hide (show l.getD k 0 = l[k] by simp [List.getD, hkl2])
      generalize l[j] = x at *
      generalize l[k] = y at *
      have q1 : (j : Int) - 1 = (k : Int) := by omega
      have q8 : (k : Int) + 1 = (j : Int) := by omega
      have q9 : k + 1 = j := hj.symm
      clear hj
      skip
      by_cases hxy : y < x
      · have hs : RiseTo l (j + 1) := (S1.out (by omega)).succ (by rw [show j - 1 = k by omega, G1.out, G2.out]; exact hxy) (by omega)
        have Hs := hide hs
        clear hs
        go_wp2_with fail
        go_quiet (fail)
        go_wp2_with fail
        go_roundw
        case rel => exact ⟨j, j + 1, rfl, by go_num, fun _ => Hs.out, fun h => fun i hi => Hs.out i (by omega), by omega, below_drewN hb _⟩
        case measure => simp [intOf]; omega
      · have hno := hide (riseB_no (l := l) (i := k) (by omega) (by rw [q9, G1.out, G2.out]; exact hxy))
        go_wp2_with fail
        go_quiet (fail)
        go_wp2_with fail
        go_ret
        exact ⟨by rw [hno.out]; try rfl, below_drewN hb _⟩
    · have hyes := hide ((riseB_iff l).2 (S2.out (by omega)))
      go_wp2_with fail
      go_ret
      exact ⟨by rw [hyes.out]; try rfl, hb⟩

/-- A node's value. -/
def Nd (w : World) (B : Nat) (v : Value) (b : Bool) (ks vs : List Int) (l : Int) : Prop := ∃ k u, v = .agg #[.bool b, k, u, .int .u64 l] ∧ Sl w B k ks ∧ Sl w B u vs
theorem Nd.below {w w' : World} {B : Nat} {v : Value} {b : Bool} {ks vs : List Int} {l : Int} (h : Nd w B v b ks vs l) (hb : Below B w w') : Nd w' B v b ks vs l := by
  obtain ⟨k, u, h1, h2, h3⟩ := h
  exact ⟨k, u, h1, h2.below hb, h3.below hb⟩
theorem Nd.more {w : World} {B B' : Nat} {v : Value} {b : Bool} {ks vs : List Int} {l : Int} (h : Nd w B v b ks vs l) (hB : B ≤ B') : Nd w B' v b ks vs l := by
  obtain ⟨k, u, h1, h2, h3⟩ := h
  exact ⟨k, u, h1, h2.more hB, h3.more hB⟩
theorem Nd.zero (w : World) (B : Nat) : Nd w B (.agg #[.bool false, .slice none 0 0, .slice none 0 0, .int .u64 0]) false [] [] 0 := ⟨_, _, rfl, Sl.nil _ _, Sl.nil _ _⟩

def rightB (b : Bool) (ks vs : List Int) : Bool := !b && ks.length == vs.length && riseB ks

set_option maxHeartbeats 1000000 in
theorem right_any (v : Value) (b : Bool) (ks vs : List Int) (l : Int) (w : World) (hl : ks.length ≤ 1000000) (h : Nd w w.heap.size v b ks vs l) :
    Calls Try.prog 22 #[v] w fun e w' => e = .returned (.bool (rightB b ks vs)) ∧ Below w.heap.size w w' := by
  obtain ⟨k, u, rfl, hk, hu⟩ := h
  have E := hide (show rightB b ks vs = (!b && ks.length == vs.length && riseB ks) from rfl)
  have Rs := hide (fun w2 (hb : Below w.heap.size w w2) => rises_any k ks w2 hl ((hk.below hb).more hb.size))
  generalize riseB ks = r at *
  generalize rightB b ks vs = R at *
  obtain ⟨A, c, rfl, h1, h2, h3⟩ := hk
  obtain ⟨A', c', rfl, h1', h2', h3'⟩ := hu
  clear h3 h3'
  cases b
  · by_cases hq : ks.length = vs.length
    · have q1 : ((ks.length : Int) == (vs.length : Int)) = true := by simp [hq]
      have q2 : (ks.length == vs.length) = true := by simp [hq]
      clear hq
      generalize ks.length = n at *
      generalize vs.length = m at *
      go_enter Try.func22, Try.ntmps22
      go_wp2_with fail
      refine (Rs.out _ ((Below.refl _ _).alloc (Nat.le_refl _) _)).mono ?_
      rintro e w2 ⟨rfl, hb2⟩
      go_wp2_with fail
      go_ret
      exact ⟨by rw [E.out, q2]; simp, ((Below.refl _ _).alloc (Nat.le_refl _) _).trans (hb2.mono (by simp only [World.size_alloc]; omega))⟩
    · have q1 : ((ks.length : Int) == (vs.length : Int)) = false := by simp; omega
      have q2 : (ks.length == vs.length) = false := by simp [hq]
      clear hq
      generalize ks.length = n at *
      generalize vs.length = m at *
      go_enter Try.func22, Try.ntmps22
      go_wp2_with fail
      go_ret
      exact ⟨by rw [E.out, q2]; simp, ((Below.refl _ _).alloc (Nat.le_refl _) _)⟩
  · go_enter Try.func22, Try.ntmps22
    go_wp2_with fail
    go_ret
    exact ⟨by rw [E.out]; simp, ((Below.refl _ _).alloc (Nat.le_refl _) _)⟩
end Go.Proofs.Ytogpdgogcjljfaa
