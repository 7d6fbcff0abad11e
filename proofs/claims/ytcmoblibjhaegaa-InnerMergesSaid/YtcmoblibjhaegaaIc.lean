/-
  inner.Child, gleaningref13.Child.
-/
import Derived.Test.YtcmoblibjhaegaaIq
import Derived.Test.YtcmoblibjhaegaaRise
namespace Go.Proofs.Ytcmoblibjhaegaa
open Go.RowKit

/-- How many keys are not above one. -/
def upN (key : Int) (l : List Int) : Nat := (l.filter fun k => decide (k ≤ key)).length
theorem upN_le (key : Int) (l : List Int) : upN key l ≤ l.length := List.length_filter_le _ _
theorem upN_snoc (key : Int) (l : List Int) (x : Int) : upN key (l ++ [x]) = upN key l + (if x ≤ key then 1 else 0) := by
  unfold upN
  rw [List.filter_append, List.length_append]
  by_cases h : x ≤ key <;> simp [h]
theorem find_up {key : Int} {l : List Int} (h : riseB l = true) (hl : l.length ≤ 1000) : sfind 2 key l = upN key l := by
  rw [sfind_count (sorted_of_rise ((riseB_iff l).1 h)) hl, if_pos (.inr rfl)]
  congr 2
def childN (b : Bool) (ks vs : List Int) (key : Int) : Nat := if rightI b ks vs = true then upN key ks else 0
set_option maxRecDepth 100000 in
set_option maxHeartbeats 4000000 in
theorem child_any (v : Value) (b : Bool) (ks vs : List Int) (l key : Int) (w : World) (hl : ks.length ≤ 1000) (h : Nd w w.heap.size v b ks vs l) :
    Calls Try.prog 20 #[v, .int .u64 key] w fun e w' => e = .returned (.int .i64 (childN b ks vs key)) ∧ Below w.heap.size w w' := by
  have Rt := hide (fun w2 (hb : Below w.heap.size w w2) => iright_any v b ks vs l w2 (by omega) ((h.below hb).more hb.size))
  obtain ⟨k, u, rfl, hk, hu⟩ := h
  obtain ⟨A, c, rfl, h1, h2, h3⟩ := hk
  obtain ⟨A', c', rfl, _⟩ := hu
  have So := hide (fun w2 (hb : Below w.heap.size w w2) => of_any 2 key A ks.length c ks w2 (by omega) ((h3.below hb).more hb.size))
  have bx := Blk.new w 27 #[.bool b, .slice A ks.length c, .slice A' vs.length c', .int .u64 l]
  have hb := (Below.refl w.heap.size w).alloc (Nat.le_refl _) (.cells #[.bool b, .slice A ks.length c, .slice A' vs.length c', .int .u64 l] 27)
  cases hr : rightI b ks vs with
  | true =>
    have e1 : childN b ks vs key = upN key ks := by unfold childN; rw [hr]; rfl
    rw [hr] at Rt
    rw [find_up (rightI_parts hr).2.2 hl] at So
    rw [e1]
    clear hr e1 h3 h1 h2 hl
    generalize upN key ks = r at *
    generalize ks.length = n at *
    generalize vs.length = m at *
    go_enter Try.func20, Try.ntmps20
    go_wp2_with fail
    refine (Rt.out _ hb).mono ?_
    rintro e w1 ⟨rfl, hb1⟩
    replace bx := bx.below hb1 bx.lt
    replace hb := hb.trans (hb1.mono hb.size)
    have mx := fun i => bx.cell i
    go_wp2_with fail
    refine (So.out _ hb).mono ?_
    rintro e w2 ⟨rfl, hb2⟩
    go_wp2_with fail
    go_ret
    exact ⟨rfl, hb.trans (hb2.mono hb.size)⟩
  | false =>
    have e1 : childN b ks vs key = 0 := by unfold childN; rw [hr]; rfl
    rw [hr] at Rt
    rw [e1]
    clear hr e1 h3 h1 h2 hl So
    generalize ks.length = n at *
    generalize vs.length = m at *
    go_enter Try.func20, Try.ntmps20
    go_wp2_with fail
    refine (Rt.out _ hb).mono ?_
    rintro e w1 ⟨rfl, hb1⟩
    go_wp2_with fail
    go_ret
    exact ⟨rfl, hb.trans (hb1.mono hb.size)⟩
set_option maxRecDepth 100000 in
set_option maxHeartbeats 4000000 in
theorem rchild_any (v : Value) (b : Bool) (ks vs : List Int) (l key : Int) (w : World) (hl : ks.length ≤ 1000) (h : Nd w w.heap.size v b ks vs l) :
    Calls Try.prog 21 #[v, .int .u64 key] w fun e w' => e = .returned (.int .i64 (upN key ks)) ∧ Below w.heap.size w w' := by
  obtain ⟨k, u, rfl, hk, hu⟩ := h
  obtain ⟨A, c, rfl, h1, h2, h3⟩ := hk
  obtain ⟨A', c', rfl, _⟩ := hu
  have bx := Blk.new w 27 #[.bool b, .slice A ks.length c, .slice A' vs.length c', .int .u64 l]
  have hb := (Below.refl w.heap.size w).alloc (Nat.le_refl _) (.cells #[.bool b, .slice A ks.length c, .slice A' vs.length c', .int .u64 l] 27)
  have hlz : (ks.length : Int) ≤ 1000 := by omega
  have HR := hide h3
  clear h3 h1 h2 hl
  go_enter Try.func21, Try.ntmps21
  go_wp2_with fail
  generalize w.alloc (.cells #[.bool b, .slice A ks.length c, .slice A' vs.length c', .int .u64 l] 27) = w0 at *
  go_loopw [5, 6] (fun r i wr => ∃ k : Nat, i = .int .i64 k ∧ r = .int .i64 (upN key (ks.take k)) ∧ k ≤ ks.length ∧ Below w.heap.size w wr ∧ Blk wr w.heap.size 27 #[.bool b, .slice A ks.length c, .slice A' vs.length c', .int .u64 l]) (fun _ i _ => 100000 - (intOf i).toNat)
  case atStart => exact ⟨0, rfl, rfl, by omega, hb, bx⟩
  case round =>
    clear bx hb
    obtain ⟨k, rfl, rfl, hk, hb, bx⟩ := hrel
    have mx := fun i => bx.cell i
    by_cases hlt : k < ks.length
    · obtain ⟨a, rfl, hkl, z1⟩ := (HR.out.below hb).word hlt
      have HX := hide (show upN key (ks.take (k + 1)) = upN key (ks.take k) + (if ks[k] ≤ key then 1 else 0) by rw [take_snoc' ks k hkl, upN_snoc])
      have HU := upN_le key (ks.take k)
      rw [List.length_take] at HU
      have hu : (upN key (ks.take k) : Int) ≤ 1000 := by omega
      have hkz : (k : Int) < (ks.length : Int) := by omega
      have hk1 : (k : Int) ≤ 1000 := by omega
      clear HU
      generalize ks[k] = x at *
      generalize upN key (ks.take k) = r at *
      by_cases hx : x ≤ key
      · rw [if_pos hx] at HX
        go_wp2_with fail
        go_roundw
        case rel => exact ⟨k + 1, by go_num, by rw [HX.out]; go_num, by omega, hb, bx⟩
        case measure => simp [intOf]; omega
      · rw [if_neg hx] at HX
        go_wp2_with fail
        go_roundw
        case rel => exact ⟨k + 1, by go_num, by rw [HX.out]; rfl, by omega, hb, bx⟩
        case measure => simp [intOf]; omega
    · have hkz : ¬ (k : Int) < (ks.length : Int) := by omega
      have HT := hide (show ks.take k = ks from List.take_of_length_le (by omega))
      go_wp2_with fail
      go_ret
      exact ⟨by rw [HT.out]; rfl, hb⟩
end Go.Proofs.Ytcmoblibjhaegaa
