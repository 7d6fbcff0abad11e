/-
  An epoch that goes on over words that nobody else turns: in plain Lean.
-/
import Derived.Test.YtgcdmgpcfdfomaaDoorAdvP
import Derived.Test.YtgcdmgpcfdfomaaDoorMemo
namespace Go.Proofs.YtgcdmgpcfdfomaaDoor
open Go.RowKit

def evi (v : Int) : Int := v - v % 4 + 2
def prc (own e0 th j v : Int) : Int := if 3 ≤ j ∧ j < 3 + th ∧ j ≠ 3 + own ∧ ablocks v e0 = true then evi v else v
/-- The threads below th are done with: each that blocks is evicted, but for one's own. -/
def Prc (own th : Int) (was ws : List Int) : Prop := ws.length = was.length ∧ ∀ j : Nat, j < was.length → ws.getD j 0 = prc own (was.getD 0 0) th j (was.getD j 0)
def freeU (own p th : Int) (was : List Int) : Prop := ∀ q : Nat, (q : Int) < th → (q : Int) ≠ own → ablocks (was.getD (3 + q) 0) (was.getD 0 0) = true → astall (was.getD (3 + q) 0) (was.getD 1 0) p = true
def cntO (own th : Int) : Int := if own < th then th - 1 else th
def KFin (own t p : Int) (was : List Int) (x : Av) (ws : List Int) : Prop :=
  (x.oc = 3 ∧ freeU own p t was ∧ ∃ ws1, Prc own t was ws1 ∧ ws = ws1.set 0 ((was.getD 0 0 + 1) % 18446744073709551616)) ∨
  (x.oc = 1 ∧ ∃ th : Nat, (th : Int) < t ∧ (th : Int) ≠ own ∧ Prc own th was ws ∧ freeU own p th was ∧ ablocks (was.getD (3 + th) 0) (was.getD 0 0) = true ∧ astall (was.getD (3 + th) 0) (was.getD 1 0) p = false)
def KMid (own t p : Int) (was : List Int) (x : Av) (ws : List Int) : Prop :=
  x.ep = was.getD 0 0 ∧ (0 ≤ x.th ∧ x.th < t) ∧ x.th ≠ own ∧ Prc own x.th was ws ∧ freeU own p x.th was
def KInv (own t p : Int) (was : List Int) (x : Av) (ws : List Int) (n : Int) : Prop :=
  (x.k = 1 ∧ x.th = 0 ∧ ws = was ∧ n = 0) ∨
  (x.k = 2 ∧ KMid own t p was x ws ∧ n ≤ 1 + 3 * cntO own x.th) ∨
  (x.k = 3 ∧ KMid own t p was x ws ∧ x.wd = was.getD (3 + x.th).toNat 0 ∧ ablocks x.wd x.ep = true ∧ n ≤ 2 + 3 * cntO own x.th) ∨
  (x.k = 4 ∧ KMid own t p was x ws ∧ x.wd = was.getD (3 + x.th).toNat 0 ∧ ablocks x.wd x.ep = true ∧ astall x.wd (was.getD 1 0) p = true ∧ n ≤ 3 + 3 * cntO own x.th) ∨
  (x.k = 5 ∧ x.ep = was.getD 0 0 ∧ Prc own t was ws ∧ freeU own p t was ∧ n ≤ 1 + 3 * (t - 1)) ∨
  (x.k = 0 ∧ KFin own t p was x ws ∧ n ≤ 2 + 3 * (t - 1))

theorem Prc.zero (own : Int) (was : List Int) : Prc own 0 was was := ⟨rfl, fun j _ => by unfold prc; rw [if_neg (by omega)]⟩
theorem freeU_zero (own p : Int) (was : List Int) : freeU own p 0 was := fun q hq => by omega
theorem Prc.skip {own q : Int} {was ws : List Int} (h : Prc own q was ws) (e : q = own) : Prc own (q + 1) was ws := by
  refine ⟨h.1, fun j hj => (h.2 j hj).trans ?_⟩
  unfold prc
  by_cases c : 3 ≤ (j : Int) ∧ (j : Int) < 3 + q ∧ (j : Int) ≠ 3 + own ∧ ablocks (was.getD j 0) (was.getD 0 0) = true
  · rw [if_pos c, if_pos ⟨c.1, by omega, c.2.2⟩]
  · rw [if_neg c, if_neg (fun d => c ⟨d.1, by omega, d.2.2⟩)]
theorem freeU.skip {own p q : Int} {was : List Int} (h : freeU own p q was) (e : q = own) : freeU own p (q + 1) was := fun r hr hne hb => h r (by omega) hne hb
/-- The next thread's turn. -/
theorem KInv.next {own t p : Int} {was ws : List Int} {x : Av} {q n : Int} (ht : 1 ≤ t) (ho : 0 ≤ own ∧ own < t) (hq : 0 ≤ q ∧ q ≤ t) (he : x.ep = was.getD 0 0) (hP : Prc own q was ws) (hF : freeU own p q was) (hn : n ≤ 1 + 3 * cntO own q) : KInv own t p was (aNext own t x q) ws n := by
  obtain ⟨q', hq', h1, h2, h3, h4, h5⟩ : ∃ q', aThr own q = q' ∧ (0 ≤ q' ∧ q' ≤ t) ∧ q' ≠ own ∧ Prc own q' was ws ∧ freeU own p q' was ∧ n ≤ 1 + 3 * cntO own q' := by
    by_cases e : q = own
    · refine ⟨q + 1, by unfold aThr; rw [if_pos e], by omega, by omega, hP.skip e, hF.skip e, ?_⟩
      unfold cntO at hn ⊢
      rw [if_neg (by omega)] at hn
      rw [if_pos (by omega)]
      omega
    · exact ⟨q, by unfold aThr; rw [if_neg e], hq, e, hP, hF, hn⟩
  unfold aNext KInv
  rw [hq']
  unfold aStep
  by_cases hb : t ≤ q'
  · rw [if_pos hb]
    have e : q' = t := by omega
    subst e
    refine .inr (.inr (.inr (.inr (.inl ⟨rfl, he, h3, h4, ?_⟩))))
    unfold cntO at h5
    rw [if_pos (by omega)] at h5
    exact h5
  · rw [if_neg hb]
    exact .inr (.inl ⟨rfl, ⟨he, ⟨h1.1, show q' < t by omega⟩, h2, h3, h4⟩, h5⟩)
theorem wGet_in {l : List Int} {a : Int} (h : 0 ≤ a ∧ a < l.length) : wGet l a = l.getD a.toNat 0 := by unfold wGet; rw [if_pos h]
theorem wPut_in {l : List Int} {a x : Int} (h : 0 ≤ a ∧ a < l.length) : wPut l a x = l.set a.toNat x := by unfold wPut; rw [if_pos h]
theorem getD_setK (l : List Int) (p j : Nat) (x : Int) (hp : p < l.length) : (l.set p x).getD j 0 = if j = p then x else l.getD j 0 := by
  rw [List.getD_eq_getElem?_getD, List.getElem?_set, List.getD_eq_getElem?_getD]
  by_cases h : p = j
  · subst h
    rw [if_pos rfl, if_pos hp, if_pos rfl]
    rfl
  · rw [if_neg h, if_neg (fun e => h e.symm)]
theorem Prc.low {own th : Int} {was ws : List Int} (h : Prc own th was ws) {j : Nat} (hj : j < was.length) (hlow : j < 3 ∨ 3 + th ≤ j) : ws.getD j 0 = was.getD j 0 := by
  rw [h.2 j hj]
  unfold prc
  rw [if_neg (by omega)]
theorem cntO_step {own q : Int} (h : q ≠ own) : cntO own (q + 1) = cntO own q + 1 := by
  unfold cntO
  split <;> split <;> omega

set_option maxHeartbeats 1000000 in
theorem KInv.step {own t p : Int} {was ws : List Int} {x : Av} {n : Int} (ht : 1 ≤ t) (ho : 0 ≤ own ∧ own < t) (hl : 3 + t ≤ (was.length : Int)) (h : KInv own t p was x ws n) (h0 : x.k ≠ 0) :
    KInv own t p was (aTook own t p x (mDo ws (aAsk x).1 (aAsk x).2.1 (aAsk x).2.2.1 (aAsk x).2.2.2).1) (mDo ws (aAsk x).1 (aAsk x).2.1 (aAsk x).2.2.1 (aAsk x).2.2.2).2 (n + 1) := by
  have ld : ∀ a : Int, mDo ws 1 a 0 0 = (wGet ws a, ws) := fun a => by unfold mDo; rw [if_pos rfl]
  rcases h with ⟨hk, hth, rfl, hn⟩ | ⟨hk, ⟨he, hth, hne, hP, hF⟩, hn⟩ | ⟨hk, ⟨he, hth, hne, hP, hF⟩, hw, hb, hn⟩ | ⟨hk, ⟨he, hth, hne, hP, hF⟩, hw, hb, hst, hn⟩ | ⟨hk, he, hP, hF, hn⟩ | ⟨hk, _⟩
  · have e : aAsk x = (1, 0, 0, 0) := by unfold aAsk; rw [if_pos hk]
    rw [e]
    simp only [ld]
    rw [wGet_in ⟨by omega, by omega⟩]
    unfold aTook
    rw [if_neg h0, if_pos hk]
    exact KInv.next ht ho ⟨by omega, by omega⟩ rfl (Prc.zero own ws) (freeU_zero own p ws) (by unfold cntO; rw [if_neg (by omega)]; omega)
  · have e : aAsk x = (1, 3 + x.th, 0, 0) := by unfold aAsk; rw [if_neg (by omega), if_pos hk]
    rw [e]
    simp only [ld]
    rw [wGet_in ⟨by omega, by rw [hP.1]; omega⟩, hP.low (by omega) (.inr (by omega))]
    unfold aTook
    rw [if_neg h0, if_neg (by omega), if_pos hk]
    by_cases hb : ablocks (was.getD (3 + x.th).toNat 0) x.ep = true
    · rw [if_pos hb]
      exact .inr (.inr (.inl ⟨rfl, ⟨he, hth, hne, hP, hF⟩, rfl, hb, by simp only; omega⟩))
    · rw [if_neg hb]
      rw [he] at hb
      refine KInv.next ht ho ⟨by omega, by omega⟩ he ⟨hP.1, fun j hj => (hP.2 j hj).trans ?_⟩ (fun q hq hqo hqb => ?_) (by rw [cntO_step hne]; omega)
      · unfold prc
        by_cases c : 3 ≤ (j : Int) ∧ (j : Int) < 3 + x.th ∧ (j : Int) ≠ 3 + own ∧ ablocks (was.getD j 0) (was.getD 0 0) = true
        · rw [if_pos c, if_pos ⟨c.1, by omega, c.2.2⟩]
        · rw [if_neg c, if_neg (fun d => ?_)]
          by_cases ej : (j : Int) = 3 + x.th
          · have e2 : (3 + x.th).toNat = j := by omega
            rw [e2] at hb
            exact hb d.2.2.2
          · exact c ⟨d.1, by omega, d.2.2⟩
      · by_cases eq : (q : Int) = x.th
        · have e2 : (3 + x.th).toNat = 3 + q := by omega
          rw [e2] at hb
          exact absurd hqb hb
        · exact hF q (by omega) hqo hqb
  · have e : aAsk x = (1, 1, 0, 0) := by unfold aAsk; rw [if_neg (by omega), if_neg (by omega), if_pos hk]
    rw [e]
    simp only [ld]
    rw [wGet_in ⟨by omega, by rw [hP.1]; omega⟩, show (1 : Int).toNat = 1 from rfl, hP.low (by omega) (.inl (by omega))]
    unfold aTook
    rw [if_neg h0, if_neg (by omega), if_neg (by omega), if_pos hk]
    by_cases hs : astall x.wd (was.getD 1 0) p = true
    · rw [if_pos hs]
      exact .inr (.inr (.inr (.inl ⟨rfl, ⟨he, hth, hne, hP, hF⟩, hw, hb, hs, by simp only; omega⟩)))
    · rw [if_neg hs]
      have hs' : astall x.wd (was.getD 1 0) p = false := by simpa using hs
      obtain ⟨q, hq⟩ := Int.eq_ofNat_of_zero_le hth.1
      have e2 : (3 + x.th).toNat = 3 + q := by omega
      rw [e2] at hw
      rw [hw] at hb hs'
      rw [he] at hb
      refine .inr (.inr (.inr (.inr (.inr ⟨rfl, .inr ⟨rfl, q, by omega, by omega, ?_, ?_, hb, hs'⟩, ?_⟩))))
      · rw [← hq]; exact hP
      · rw [← hq]; exact hF
      · have : cntO own x.th ≤ t - 2 := by unfold cntO; split <;> omega
        omega
  · have e : aAsk x = (3, 3 + x.th, x.wd, x.wd - x.wd % 4 + 2) := by unfold aAsk; rw [if_neg (by omega), if_neg (by omega), if_neg (by omega), if_pos hk]
    rw [e]
    have hin : 0 ≤ 3 + x.th ∧ 3 + x.th < (ws.length : Int) := ⟨by omega, by rw [hP.1]; omega⟩
    have hg : wGet ws (3 + x.th) = x.wd := by rw [wGet_in hin, hP.low (by omega) (.inr (by omega)), hw]
    have hm : mDo ws 3 (3 + x.th) x.wd (x.wd - x.wd % 4 + 2) = (1, ws.set (3 + x.th).toNat (evi x.wd)) := by
      unfold mDo
      rw [if_neg (by omega), if_neg (by omega), if_pos ⟨rfl, hin.1, hin.2, hg⟩, wPut_in hin]
      rfl
    simp only [hm]
    unfold aTook
    rw [if_neg h0, if_neg (by omega), if_neg (by omega), if_neg (by omega), if_pos hk, if_pos rfl]
    have hpl : (3 + x.th).toNat < ws.length := by omega
    refine KInv.next ht ho ⟨by omega, by omega⟩ he ⟨by rw [List.length_set]; exact hP.1, fun j hj => ?_⟩ (fun q hq hqo hqb => ?_) (by rw [cntO_step hne]; omega)
    · rw [getD_setK _ _ _ _ hpl, hP.2 j hj]
      unfold prc
      by_cases ej : j = (3 + x.th).toNat
      · rw [if_pos ej, if_pos ⟨by omega, by omega, by omega, by rw [ej, ← hw, ← he]; exact hb⟩, ej, ← hw]
      · rw [if_neg ej]
        by_cases c : 3 ≤ (j : Int) ∧ (j : Int) < 3 + x.th ∧ (j : Int) ≠ 3 + own ∧ ablocks (was.getD j 0) (was.getD 0 0) = true
        · rw [if_pos c, if_pos ⟨c.1, by omega, c.2.2⟩]
        · rw [if_neg c, if_neg (fun d => c ⟨d.1, by omega, d.2.2⟩)]
    · by_cases eq : (q : Int) = x.th
      · have e2 : (3 + x.th).toNat = 3 + q := by omega
        rw [← e2, ← hw]
        exact hst
      · exact hF q (by omega) hqo hqb
  · have e : aAsk x = (3, 0, x.ep, (x.ep + 1) % 18446744073709551616) := by unfold aAsk; rw [if_neg (by omega), if_neg (by omega), if_neg (by omega), if_neg (by omega), if_pos hk]
    rw [e]
    have hin : (0 : Int) ≤ 0 ∧ (0 : Int) < (ws.length : Int) := ⟨by omega, by rw [hP.1]; omega⟩
    have hg : wGet ws 0 = x.ep := by rw [wGet_in hin, show (0 : Int).toNat = 0 from rfl, hP.low (by omega) (.inl (by omega)), he]
    have hm : mDo ws 3 0 x.ep ((x.ep + 1) % 18446744073709551616) = (1, ws.set 0 ((x.ep + 1) % 18446744073709551616)) := by
      unfold mDo
      rw [if_neg (by omega), if_neg (by omega), if_pos ⟨rfl, hin.1, hin.2, hg⟩, wPut_in hin]
      rfl
    simp only [hm]
    unfold aTook
    rw [if_neg h0, if_neg (by omega), if_neg (by omega), if_neg (by omega), if_neg (by omega), if_pos rfl]
    exact .inr (.inr (.inr (.inr (.inr ⟨rfl, .inl ⟨rfl, hF, ws, hP, by rw [he]⟩, by omega⟩))))
  · exact absurd hk h0
theorem freeU_succ {own p : Int} {was : List Int} {q : Nat} : freeU own p ((q : Int) + 1) was ↔ freeU own p q was ∧ ((q : Int) ≠ own → ablocks (was.getD (3 + q) 0) (was.getD 0 0) = true → astall (was.getD (3 + q) 0) (was.getD 1 0) p = true) := by
  constructor
  · intro h
    exact ⟨fun r hr => h r (by omega), h q (by omega)⟩
  · rintro ⟨h1, h2⟩ r hr hne hb
    by_cases e : r = q
    · subst e; exact h2 hne hb
    · exact h1 r (by omega) hne hb
theorem freeU_mono {own p a b : Int} {was : List Int} (h : freeU own p b was) (hab : a ≤ b) : freeU own p a was := fun q hq => h q (by omega)
theorem KFin.len {own t p : Int} {was ws : List Int} {x : Av} (h : KFin own t p was x ws) : ws.length = was.length := by
  rcases h with ⟨_, _, ws1, h1, rfl⟩ | ⟨_, th, _, _, h1, _⟩
  · rw [List.length_set]; exact h1.1
  · exact h1.1
/-- What stands in a thread's word in the end. -/
theorem KFin.word {own t p : Int} {was ws : List Int} {x : Av} (h : KFin own t p was x ws) (hl : 3 + t ≤ (was.length : Int)) {q : Nat} (hq : (q : Int) < t) :
    (freeU own p ((q : Int) + 1) was → (q : Int) ≠ own → ablocks (was.getD (3 + q) 0) (was.getD 0 0) = true → ws.getD (3 + q) 0 = evi (was.getD (3 + q) 0)) ∧
    (¬ (freeU own p ((q : Int) + 1) was ∧ (q : Int) ≠ own ∧ ablocks (was.getD (3 + q) 0) (was.getD 0 0) = true) → ws.getD (3 + q) 0 = was.getD (3 + q) 0) := by
  have hj : 3 + q < was.length := by omega
  rcases h with ⟨_, hF, ws1, h1, rfl⟩ | ⟨_, th, hth, hne, h1, hF, hb, hs⟩
  · have e := h1.2 (3 + q) hj
    have hq1 := freeU_mono hF (show (q : Int) + 1 ≤ t by omega)
    rw [getD_setK _ _ _ _ (by rw [h1.1]; omega), if_neg (by omega), e]
    unfold prc
    constructor
    · intro _ hn hb
      rw [if_pos ⟨by omega, by omega, by omega, hb⟩]
    · intro hn
      rw [if_neg (fun d => hn ⟨hq1, by omega, d.2.2.2⟩)]
  · have e := h1.2 (3 + q) hj
    rw [e]
    unfold prc
    constructor
    · intro hf hn hb2
      have : (q : Int) < th := by
        by_cases c : (q : Int) < th
        · exact c
        · have := hf th (by omega) hne hb
          rw [hs] at this
          cases this
      rw [if_pos ⟨by omega, by omega, by omega, hb2⟩]
    · intro hn
      rw [if_neg (fun d => hn ⟨freeU_mono hF (by omega), by omega, d.2.2.2⟩)]
theorem KFin.end_ {own t p : Int} {was ws : List Int} {x : Av} (h : KFin own t p was x ws) (ht : 0 ≤ t) (hl : 3 + t ≤ (was.length : Int)) :
    (freeU own p t was ∧ x.oc = 3 ∧ ws.getD 0 0 = (was.getD 0 0 + 1) % 18446744073709551616) ∨ (¬ freeU own p t was ∧ x.oc = 1 ∧ ws.getD 0 0 = was.getD 0 0) := by
  rcases h with ⟨ho, hF, ws1, h1, rfl⟩ | ⟨ho, th, hth, hne, h1, hF, hb, hs⟩
  · refine .inl ⟨hF, ho, ?_⟩
    rw [getD_setK _ _ _ _ (by rw [h1.1]; omega), if_pos rfl]
  · refine .inr ⟨fun hf => ?_, ho, h1.low (by omega) (.inl (by omega))⟩
    have := hf th hth hne hb
    rw [hs] at this
    cases this
theorem KInv.bound {own t p : Int} {was ws : List Int} {x : Av} {n : Int} (h : KInv own t p was x ws n) (ho : 0 ≤ own ∧ own < t) : n ≤ 2 + 3 * (t - 1) ∧ (x.k ≠ 0 → n ≤ 3 * t + 2) := by
  have hc : 0 ≤ x.th → x.th < t → x.th ≠ own → cntO own x.th ≤ t - 2 := fun h1 h2 h3 => by unfold cntO; split <;> omega
  rcases h with ⟨hk, hth, rfl, hn⟩ | ⟨hk, ⟨he, hth, hne, hP, hF⟩, hn⟩ | ⟨hk, ⟨he, hth, hne, hP, hF⟩, hw, hb, hn⟩ | ⟨hk, ⟨he, hth, hne, hP, hF⟩, hw, hb, hst, hn⟩ | ⟨hk, he, hP, hF, hn⟩ | ⟨hk, _, hn⟩
  · omega
  · have := hc hth.1 hth.2 hne; omega
  · have := hc hth.1 hth.2 hne; omega
  · have := hc hth.1 hth.2 hne; omega
  · omega
  · exact ⟨hn, fun h => absurd hk h⟩
theorem KInv.fin {own t p : Int} {was ws : List Int} {x : Av} {n : Int} (h : KInv own t p was x ws n) (h0 : x.k = 0) : KFin own t p was x ws := by
  rcases h with ⟨hk, _⟩ | ⟨hk, _⟩ | ⟨hk, _⟩ | ⟨hk, _⟩ | ⟨hk, _⟩ | ⟨_, h, _⟩
  · omega
  · omega
  · omega
  · omega
  · omega
  · exact h
theorem KInv.len {own t p : Int} {was ws : List Int} {x : Av} {n : Int} (h : KInv own t p was x ws n) : ws.length = was.length := by
  rcases h with ⟨_, _, rfl, _⟩ | ⟨hk, ⟨he, hth, hne, hP, hF⟩, hn⟩ | ⟨hk, ⟨he, hth, hne, hP, hF⟩, hw, hb, hn⟩ | ⟨hk, ⟨he, hth, hne, hP, hF⟩, hw, hb, hst, hn⟩ | ⟨hk, he, hP, hF, hn⟩ | ⟨hk, h, hn⟩
  · rfl
  · exact hP.1
  · exact hP.1
  · exact hP.1
  · exact hP.1
  · exact h.len
end Go.Proofs.YtgcdmgpcfdfomaaDoor
