/-
  The reference's Right, and gleaningref03.Words, gleaningref10.Same.
-/
import Derived.Test.YtcmoblibjhaegaaLeafC
namespace Go.Proofs.Ytcmoblibjhaegaa
open Go.RowKit

def eqTo (l m : List Int) (k : Nat) : Prop := ∀ i, i < k → l.getD i 0 = m.getD i 0
theorem eq_of_eqTo {l m : List Int} (hl : l.length = m.length) (h : eqTo l m l.length) : l = m := by
  apply List.ext_getElem hl
  intro i h1 h2
  have := h i h1
  simpa [List.getD, h1, h2] using this
theorem ne_of_getD {l m : List Int} {i : Nat} (h : l.getD i 0 ≠ m.getD i 0) : ¬ l = m := fun e => h (by rw [e])

def WordsIn (l m : List Int) (w : World) (i : Value) (wr : World) : Prop := ∃ k : Nat, i = .int .i64 k ∧ k ≤ l.length ∧ eqTo l m k ∧ Below w.heap.size w wr

set_option maxHeartbeats 1000000 in
theorem words_any (v u : Value) (l m : List Int) (w : World) (hl : l.length ≤ 1000000) (_hm : m.length ≤ 1000000) (h : Sl w w.heap.size v l) (h' : Sl w w.heap.size u m) :
    Calls Try.prog 27 #[v, u] w fun e w' => e = .returned (.bool (decide (l = m))) ∧ Below w.heap.size w w' := by
  obtain ⟨A, c, rfl, _, _, hr⟩ := h
  obtain ⟨B, d, rfl, _, _, hs⟩ := h'
  by_cases hlm : l.length = m.length
  · have q1 : ((l.length : Int) != (m.length : Int)) = false := by simp [hlm]
    have q2 : ((l.length : Int) == (m.length : Int)) = true := by simp [hlm]
    have HL := hide hlm
    clear hlm
    go_enter Try.func27, Try.ntmps27
    go_wp2_with fail
    go_loopw [5] (WordsIn l m w) (fun i _ => 10000000 - (intOf i).toNat)
    case atStart => exact ⟨0, rfl, by omega, fun i hi => by omega, Below.refl _ _⟩
    case round =>
      obtain ⟨k, rfl, hk, heq, hb⟩ := hrel
      have HE := hide heq
      clear heq
      by_cases hlt : k < l.length
      · obtain ⟨a, rfl, hkl, z1⟩ := (hr.below hb).word hlt
        have hkm : k < m.length := by have := HL.out; omega
        obtain ⟨a2, rfl, hkl2, z2⟩ := (hs.below hb).word hkm
        have G1 := hide (show l.getD k 0 = l[k] by simp [List.getD, hkl])
        have G2 := hide (show m.getD k 0 = m[k] by simp [List.getD, hkl2])
        generalize l[k] = x at *
        generalize m[k] = y at *
        by_cases hxy : x = y
        · have q3 : (x != y) = false := by simp [hxy]
          have q4 : (x == y) = true := by simp [hxy]
          have Hs := hide (show eqTo l m (k + 1) from fun i hi => by
            rcases Nat.eq_or_lt_of_le (Nat.le_of_lt_succ hi) with h | h
            · rw [h, G1.out, G2.out, hxy]
            · exact HE.out i h)
          clear hxy
          go_wp2_with fail
          go_quiet (fail)
          go_wp2_with fail
          go_roundw
          case rel => exact ⟨k + 1, by go_num, by omega, Hs.out, below_drewN hb _⟩
          case measure => simp [intOf]; omega
        · have q3 : (x != y) = true := by simp [hxy]
          have q4 : (x == y) = false := by simp [hxy]
          have Hn := hide (show decide (l = m) = false by simpa using ne_of_getD (i := k) (by rw [G1.out, G2.out]; exact hxy))
          clear hxy
          go_wp2_with fail
          go_quiet (fail)
          go_wp2_with fail
          go_ret
          exact ⟨by rw [Hn.out]; rfl, below_drewN hb _⟩
      · have Hy := hide (show decide (l = m) = true by simpa using eq_of_eqTo HL.out (fun i hi => HE.out i (by omega)))
        go_wp2_with fail
        go_ret
        exact ⟨by rw [Hy.out]; rfl, hb⟩
  · have q1 : ((l.length : Int) != (m.length : Int)) = true := by simp; omega
    have q2 : ((l.length : Int) == (m.length : Int)) = false := by simp; omega
    have Hn := hide (show decide (l = m) = false by simp; intro e; exact hlm (by rw [e]))
    clear hlm
    go_enter Try.func27, Try.ntmps27
    go_wp2_with fail
    go_ret
    exact ⟨by rw [Hn.out]; rfl, Below.refl _ _⟩

def sameB (b : Bool) (ks vs : List Int) (l : Int) (b' : Bool) (ks' vs' : List Int) (l' : Int) : Bool := b == b' && decide (ks = ks') && decide (vs = vs') && l == l'
set_option maxHeartbeats 1000000 in
theorem same_any (v u : Value) (b b' : Bool) (ks vs ks' vs' : List Int) (l l' : Int) (w : World) (g1 : ks.length ≤ 1000000) (g2 : vs.length ≤ 1000000) (g3 : ks'.length ≤ 1000000) (g4 : vs'.length ≤ 1000000)
    (h : Nd w w.heap.size v b ks vs l) (h' : Nd w w.heap.size u b' ks' vs' l') :
    Calls Try.prog 10 #[v, u] w fun e w' => e = .returned (.bool (sameB b ks vs l b' ks' vs' l')) ∧ Below w.heap.size w w' := by
  obtain ⟨k, q, rfl, hk, hq⟩ := h
  obtain ⟨k', q', rfl, hk', hq'⟩ := h'
  have W1 := hide (fun w2 (hB : Below w.heap.size w w2) => words_any k k' ks ks' w2 g1 g3 ((hk.below hB).more hB.size) ((hk'.below hB).more hB.size))
  have W2 := hide (fun w2 (hB : Below w.heap.size w w2) => words_any q q' vs vs' w2 g2 g4 ((hq.below hB).more hB.size) ((hq'.below hB).more hB.size))
  have E := hide (show sameB b ks vs l b' ks' vs' l' = (b == b' && decide (ks = ks') && decide (vs = vs') && l == l') from rfl)
  generalize sameB b ks vs l b' ks' vs' l' = R at *
  generalize decide (ks = ks') = d1 at *
  generalize decide (vs = vs') = d2 at *
  have hb := ((Below.refl w.heap.size w).alloc (Nat.le_refl _) (.cells #[.bool b, k, q, .int .u64 l] 27)).alloc (by simp only [World.size_alloc]; omega) (.cells #[.bool b', k', q', .int .u64 l'] 27)
  have bx := (Blk.new w 27 #[.bool b, k, q, .int .u64 l]).alloc (.cells #[.bool b', k', q', .int .u64 l'] 27)
  have by_ := Blk.new (w.alloc (.cells #[.bool b, k, q, .int .u64 l] 27)) 27 #[.bool b', k', q', .int .u64 l']
  obtain ⟨A, c, rfl, _⟩ := hk
  obtain ⟨B, d, rfl, _⟩ := hq
  obtain ⟨A', c', rfl, _⟩ := hk'
  obtain ⟨B', d', rfl, _⟩ := hq'
  simp only [World.size_alloc] at by_
  by_cases hbb : b = b'
  · subst hbb
    have q1 : (b == b) = true := by simp
    go_enter Try.func10, Try.ntmps10
    go_wp2_with fail
    generalize ((w.alloc (.cells #[.bool b, .slice A ks.length c, .slice B vs.length d, .int .u64 l] 27)).alloc (.cells #[.bool b, .slice A' ks'.length c', .slice B' vs'.length d', .int .u64 l'] 27)) = w0 at *
    refine (W1.out _ hb).mono ?_
    rintro e w1 ⟨rfl, hb1⟩
    replace bx := bx.below hb1 bx.lt
    replace by_ := by_.below hb1 by_.lt
    replace hb := hb.trans (hb1.mono hb.size)
    have mx := fun i => bx.cell i
    have my := fun i => by_.cell i
    clear hb1
    cases d1
    · go_wp2_with fail
      go_ret
      exact ⟨by rw [E.out, q1]; simp, hb⟩
    · go_wp2_with fail
      refine (W2.out _ hb).mono ?_
      rintro e w2 ⟨rfl, hb2⟩
      replace bx := bx.below hb2 bx.lt
      replace by_ := by_.below hb2 by_.lt
      replace hb := hb.trans (hb2.mono hb.size)
      clear mx my hb2
      have mx := fun i => bx.cell i
      have my := fun i => by_.cell i
      cases d2
      · go_wp2_with fail
        go_ret
        exact ⟨by rw [E.out, q1]; simp, hb⟩
      · go_wp2_with fail
        go_ret
        exact ⟨by rw [E.out, q1]; simp, hb⟩
  · have q1 : (b == b') = false := by simp [hbb]
    go_enter Try.func10, Try.ntmps10
    go_wp2_with fail
    go_ret
    exact ⟨by rw [E.out, q1]; simp, hb⟩
end Go.Proofs.Ytcmoblibjhaegaa
