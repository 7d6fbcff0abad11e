/-
  StackParts in plain Lean: the invariant through each step.
-/
import Derived.Test.YteiidfklepjpmaaDoorZ4
import Derived.Great.Walk
import Derived.Deep.RegionHeld3
import Derived.Deep.RegionWith
namespace Go.Proofs.YteiidfklepjpmaaDoor
open Go.RowKit

section
variable {s t f : Int} {N : Nat} {n : Int} {ws : List Int} {l1 l2 : List Wk} {x : Wk}
theorem fm_cons (l1 l2 : List Wk) (x : Wk) : (l1 ++ x :: l2).flatMap (·.own) = l1.flatMap (·.own) ++ (x.own ++ l2.flatMap (·.own)) := by simp
theorem parts_nodup {F : List Int} {xs : List Wk} (h : (F ++ xs.flatMap (·.own)).Perm (rg2 (s - 1).toNat)) : (F ++ xs.flatMap (·.own)).Nodup := h.nodup_iff.2 (rg2_nodup _)
theorem parts_in {F : List Int} {xs : List Wk} (h : (F ++ xs.flatMap (·.own)).Perm (rg2 (s - 1).toNat)) (hs : 1 ≤ s) {z : Int} (hz : z ∈ F ++ xs.flatMap (·.own)) : 2 ≤ z ∧ z ≤ s := by
  have := (h.mem_iff).1 hz
  rw [rg2_mem] at this
  omega
theorem own_apart {F : List Int} (h : (F ++ (l1 ++ x :: l2).flatMap (·.own)).Perm (rg2 (s - 1).toNat)) {z : Int} (hz : z ∈ x.own) : z ∉ F ∧ (∀ y ∈ l1, z ∉ y.own) ∧ (∀ y ∈ l2, z ∉ y.own) := by
  have nd := parts_nodup h
  rw [fm_cons] at nd
  obtain ⟨_, n2, n3⟩ := List.nodup_append.1 nd
  obtain ⟨_, n4, n5⟩ := List.nodup_append.1 n2
  obtain ⟨_, _, n6⟩ := List.nodup_append.1 n4
  refine ⟨fun hF => n3 z hF z (by simp [hz]) rfl, fun y hy hm => n5 z (List.mem_flatMap.2 ⟨y, hy, hm⟩) z (by simp [hz]) rfl, fun y hy hm => n6 z hz z (List.mem_flatMap.2 ⟨y, hy, hm⟩) rfl⟩
theorem mem_mid {y : Wk} (h : y ∈ l1 ++ x :: l2) : y ∈ l1 ∨ y = x ∨ y ∈ l2 := by simpa using h
/-- Words as they were: one worker knows more. -/
theorem inv_swap {x' : Wk} (h : Inv s t f N n ws (l1 ++ x :: l2)) (ho : x'.own = x.own) (hx : WOk s t f ws x') : Inv s t f N (n + 1) ws (l1 ++ x' :: l2) := by
  obtain ⟨⟨h1, h2, h3⟩, F, hF, hp, hall⟩ := h
  refine ⟨⟨h1, h2, by omega⟩, F, hF, ?_, fun y hy => ?_⟩
  · rw [fm_cons, ho, ← fm_cons]
    exact hp
  · rcases mem_mid hy with hy | rfl | hy
    · exact hall y (by simp [hy])
    · exact hx
    · exact hall y (by simp [hy])
theorem inv_begin (hs : 1 ≤ s ∧ s ≤ 1000) (h : Inv s t f N n ws (l1 ++ x :: l2)) (odd : Bool) : Inv s t f N n ws (l1 ++ wBegin odd x :: l2) := by
  obtain ⟨hw, F, hF, hp, hall⟩ := h
  have ho : (wBegin odd x).own = x.own := by unfold wBegin; split <;> rfl
  refine ⟨hw, F, hF, ?_, fun y hy => ?_⟩
  · rw [fm_cons, ho, ← fm_cons]
    exact hp
  · rcases mem_mid hy with hy | rfl | hy
    · exact hall y (by simp [hy])
    · intro _
      unfold wBegin
      split
      · refine ⟨fun _ => ⟨⟨by simp, (show W64 (0 : Int) from ⟨by decide, by decide⟩), by simp, by simp⟩, by simp, by simp, by simp⟩, fun h => by simp at h⟩
      · next hc =>
        cases hown : x.own with
        | nil => simp [hown] at hc
        | cons o os =>
          have hb := parts_in hp hs.1 (z := o) (by rw [fm_cons, hown]; simp)
          refine ⟨fun h => by simp at h, fun _ => ⟨⟨by simp [PsOk], (show W64 (0 : Int) from ⟨by decide, by decide⟩), ?_⟩, by simp, ⟨os, by simp⟩, by simp, by simp⟩⟩
          right
          simp
          omega
    · exact hall y (by simp [hy])
/-- A slot of one's own is linked. -/
theorem inv_link {x' : Wk} {z v : Int} (hs : 1 ≤ s ∧ s ≤ 1000) (ht : 1 ≤ t) (hf : 4 ≤ f) (hNB : ∀ k, 0 ≤ k → k ≤ s → nB t f k + 2 < N) (h : Inv s t f N n ws (l1 ++ x :: l2)) (hz : z ∈ x.own) (hv : W64 v) (ho : x'.own = x.own) (hx : WOk s t f (wPut ws (nB t f z + 2) v) x') :
    Inv s t f N (n + 1) (wPut ws (nB t f z + 2) v) (l1 ++ x' :: l2) := by
  obtain ⟨⟨h1, h2, h3⟩, F, hF, hp, hall⟩ := h
  have hb := parts_in hp hs.1 (z := z) (by rw [fm_cons]; simp [hz])
  obtain ⟨zF, za, zb⟩ := own_apart hp hz
  have hl : nB t f z + 2 < ws.length := by have := hNB z (by omega) hb.2; omega
  have hge := nB_ge (t := t) hf (y := z) (by omega)
  have hzh : z ≠ wGet ws 2 % 65536 := fun e => zF (by
    obtain ⟨F', e', _⟩ := free_head hF (by omega)
    rw [e', e]
    simp)
  refine ⟨⟨by rw [wPut_len]; exact h1, wPut_w64 h2 hv, ?_⟩, F, hF.link ht hf (by omega) hl zF, ?_, fun y hy => ?_⟩
  · rw [wGet_put (by omega) hl, if_neg (by omega)]
    omega
  · rw [fm_cons, ho, ← fm_cons]
    exact hp
  · rcases mem_mid hy with hy | rfl | hy
    · exact wok_link ht hf (by omega) hl hzh (za y hy) (hall y (by simp [hy]))
    · exact hx
    · exact wok_link ht hf (by omega) hl hzh (zb y hy) (hall y (by simp [hy]))
theorem wok_idle {y : Wk} (h : y.busy = false) : WOk s t f ws y := fun hb => by rw [h] at hb; cases hb
/-- The head is taken. -/
theorem inv_take {x' : Wk} {v : Int} (ht : 1 ≤ t) (hf : 4 ≤ f) (h2N : 2 < N) (h : Inv s t f N n ws (l1 ++ x :: l2)) (h0 : wGet ws 2 % 65536 ≠ 0) (hv : W64 v) (hv1 : v % 65536 = nxt ws t f (wGet ws 2 % 65536)) (hv2 : v / 65536 = wGet ws 2 / 65536 + 1)
    (ho : x'.own = x.own ++ [wGet ws 2 % 65536]) (hx : x'.busy = false) : Inv s t f N (n + 1) (wPut ws 2 v) (l1 ++ x' :: l2) := by
  obtain ⟨⟨h1, h2, h3⟩, F, hF, hp, hall⟩ := h
  obtain ⟨F', hF', hc⟩ := free_head hF h0
  have h2l : 2 < (ws.length : Int) := by omega
  rw [hF'] at hF hp
  refine ⟨⟨by rw [wPut_len]; exact h1, wPut_w64 h2 hv, ?_⟩, F', hF.pop ht hf h2l hv1, ?_, fun y hy => ?_⟩
  · rw [wGet_put (by omega) h2l, if_pos rfl]
    omega
  · refine List.Perm.trans ?_ hp
    rw [fm_cons, fm_cons, ho]
    generalize wGet ws 2 % 65536 = a
    generalize l1.flatMap (·.own) = b
    generalize l2.flatMap (·.own) = d
    generalize x.own = c
    have e : F' ++ (b ++ (c ++ [a] ++ d)) = (F' ++ b ++ c) ++ ([a] ++ d) := by simp [List.append_assoc]
    have e2 : a :: F' ++ (b ++ (c ++ d)) = [a] ++ (F' ++ b ++ c) ++ d := by simp [List.append_assoc]
    rw [e, e2, ← List.append_assoc]
    exact List.Perm.append_right d List.perm_append_comm
  · rcases mem_mid hy with hy | rfl | hy
    · exact wok_cas h2l hv2 (hall y (by simp [hy]))
    · exact wok_idle hx
    · exact wok_cas h2l hv2 (hall y (by simp [hy]))
/-- A slot is put. -/
theorem inv_give {x' : Wk} {v z : Int} {o : List Int} (hs : 1 ≤ s ∧ s ≤ 1000) (ht : 1 ≤ t) (hf : 4 ≤ f) (h2N : 2 < N) (h : Inv s t f N n ws (l1 ++ x :: l2)) (hz : x.own = z :: o) (hl : nxt ws t f z = wGet ws 2 % 65536) (hv : W64 v) (hv1 : v % 65536 = z) (hv2 : v / 65536 = wGet ws 2 / 65536 + 1)
    (ho : x'.own = o) (hx : x'.busy = false) : Inv s t f N (n + 1) (wPut ws 2 v) (l1 ++ x' :: l2) := by
  obtain ⟨⟨h1, h2, h3⟩, F, hF, hp, hall⟩ := h
  have h2l : 2 < (ws.length : Int) := by omega
  have hzo : z ∈ x.own := by rw [hz]; simp
  have hb := parts_in hp hs.1 (z := z) (by rw [fm_cons]; simp [hzo])
  obtain ⟨zF, _, _⟩ := own_apart hp hzo
  refine ⟨⟨by rw [wPut_len]; exact h1, wPut_w64 h2 hv, ?_⟩, z :: F, hF.push ht hf (by omega) h2l zF hl hv1, ?_, fun y hy => ?_⟩
  · rw [wGet_put (by omega) h2l, if_pos rfl]
    omega
  · refine List.Perm.trans ?_ hp
    rw [fm_cons, fm_cons, ho, hz]
    generalize l1.flatMap (·.own) = b
    generalize l2.flatMap (·.own) = d
    have e : z :: F ++ (b ++ (o ++ d)) = [z] ++ (F ++ b) ++ (o ++ d) := by simp [List.append_assoc]
    have e2 : F ++ (b ++ (z :: o ++ d)) = (F ++ b) ++ [z] ++ (o ++ d) := by simp [List.append_assoc]
    rw [e, e2]
    exact List.Perm.append_right _ List.perm_append_comm
  · rcases mem_mid hy with hy | rfl | hy
    · exact wok_cas h2l hv2 (hall y (by simp [hy]))
    · exact wok_idle hx
    · exact wok_cas h2l hv2 (hall y (by simp [hy]))

theorem inv_pop (hs : 1 ≤ s ∧ s ≤ 1000) (ht : 1 ≤ t) (hf : 4 ≤ f) (h2N : 2 < N) (hn : n ≤ 900) (h : Inv s t f N n ws (l1 ++ x :: l2)) (hb : x.busy = true) (hq : x.pops = true) :
    Inv s t f N (n + 1) (popAsk t f ws x).2 (l1 ++ wPop s t f ws x :: l2) := by
  have H := h
  obtain ⟨⟨hlen, h64, htag⟩, F, hF, hp, hall⟩ := h
  obtain ⟨hpok, hk0, hk, h3⟩ := (hall x (by simp) hb).1 hq
  have hh0 : 0 ≤ wGet ws 2 := (wGet_w64 h64 2).1
  have hFs : ∀ y ∈ F, y ≤ s := fun y hy => (hF.2.2 y hy).2
  obtain ⟨pops, busy, ⟨k, sl, hd, tr, lk⟩, ux, own⟩ := x
  dsimp only at hb hq hpok hk0 hk h3
  subst hb hq
  obtain ⟨hk9, hw9, hlk, hsl⟩ := hpok
  dsimp only at hk9 hw9 hlk hsl
  rcases hk9 with rfl | rfl | rfl | rfl
  · exact absurd rfl hk0
  · have ea : popAsk t f ws ⟨true, true, (1, sl, hd, tr, lk), ux, own⟩ = (wGet ws 2, ws) := by simp [popAsk, pAsk, mDo]
    rw [ea]
    refine inv_swap H ?_ ?_
    · unfold wPop popOwn
      rw [ea]
      unfold pTook
      by_cases hh : 1 ≤ wGet ws 2 % 65536 ∧ wGet ws 2 % 65536 ≤ s <;> simp [hh]
    · unfold wPop
      rw [ea]
      by_cases hh : 1 ≤ wGet ws 2 % 65536 ∧ wGet ws 2 % 65536 ≤ s
      · have ep : pTook s (1, sl, hd, tr, lk) (wGet ws 2) = (2, wGet ws 2 % 65536, wGet ws 2, tr, lk) := by simp [pTook, hh]
        simp only [ep]
        intro _
        refine ⟨fun _ => ⟨⟨by simp, wGet_w64 h64 2, hlk, fun _ => hh⟩, by simp, fun _ => ⟨rfl, Int.le_refl _⟩, by simp⟩, fun h => by simp at h⟩
      · have ep : pTook s (1, sl, hd, tr, lk) (wGet ws 2) = (0, 0, wGet ws 2, tr, lk) := by simp [pTook, hh]
        simp only [ep]
        exact wok_idle (by simp)
  · have ea : popAsk t f ws ⟨true, true, (2, sl, hd, tr, lk), ux, own⟩ = (nxt ws t f sl, ws) := by simp [popAsk, pAsk, mDo, nxt, nB]
    rw [ea]
    have ep : pTook s (2, sl, hd, tr, lk) (nxt ws t f sl) = (3, sl, hd, tr, if nxt ws t f sl ≤ s then nxt ws t f sl else 0) := by simp [pTook]
    refine inv_swap H ?_ ?_
    · unfold wPop popOwn
      rw [ea, ep]
      simp
    · unfold wPop
      rw [ea]
      simp only [ep]
      have hn0 : 0 ≤ nxt ws t f sl := (wGet_w64 h64 _).1
      intro _
      refine ⟨fun _ => ⟨⟨by simp, hw9, ?_, fun _ => hsl (.inl rfl)⟩, by simp, fun _ => hk (by omega), fun _ => ⟨?_, fun e => ?_⟩⟩, fun h => by simp at h⟩
      · dsimp only
        split <;> omega
      · dsimp only
        split <;> omega
      · dsimp only at e ⊢
        have hsl' := hsl (.inl rfl)
        have hkk := (hk (by omega)).1
        obtain ⟨F', e', hc⟩ := free_head hF (by rw [← e, ← hkk]; omega)
        rw [if_pos]
        rw [hkk, e]
        exact ch_le hc (fun y hy => hFs y (by rw [e']; simp [hy])) (by omega)
  · have hsl' := hsl (.inr rfl)
    have hkk := hk (by omega)
    by_cases e : wGet ws 2 = hd
    · have hlk' := (h3 rfl).2 e.symm
      have htg : hd / 65536 ≤ 1000 := by rw [← e]; omega
      have hT := hturn_parts (h := hd) (x := lk) (by omega) hlk htg
      have ea : popAsk t f ws ⟨true, true, (3, sl, hd, tr, lk), ux, own⟩ = (1, wPut ws 2 (hturn hd lk)) := by
        simp [popAsk, pAsk, mDo, e]
        omega
      have ep : pTook s (3, sl, hd, tr, lk) 1 = (0, sl, hd, tr, lk) := by simp [pTook]
      rw [ea]
      have hs2 : wGet ws 2 % 65536 = sl := by rw [e]; exact hkk.1.symm
      refine inv_take ht hf h2N H (by rw [hs2]; omega) (hturn_bound _ _) ?_ ?_ ?_ ?_
      · rw [hT.1, hs2]
        exact hlk'
      · rw [hT.2, e]
      · unfold wPop popOwn
        rw [ea, ep, hs2]
        simp
        omega
      · unfold wPop
        rw [ea, ep]
        simp
    · have ea : popAsk t f ws ⟨true, true, (3, sl, hd, tr, lk), ux, own⟩ = (0, ws) := by simp [popAsk, pAsk, mDo, e]
      have ep : pTook s (3, sl, hd, tr, lk) 0 = (1, sl, hd, wrap64 (tr + 1), lk) := by simp [pTook]
      rw [ea]
      refine inv_swap H ?_ ?_
      · unfold wPop popOwn
        rw [ea, ep]
        simp
      · unfold wPop
        rw [ea]
        simp only [ep]
        intro _
        exact ⟨fun _ => ⟨⟨by simp, hw9, hlk, by simp⟩, by simp, by simp, by simp⟩, fun h => by simp at h⟩
theorem inv_push (hs : 1 ≤ s ∧ s ≤ 1000) (ht : 1 ≤ t) (hf : 4 ≤ f) (h2N : 2 < N) (hNB : ∀ k, 0 ≤ k → k ≤ s → nB t f k + 2 < N) (hn : n ≤ 900) (h : Inv s t f N n ws (l1 ++ x :: l2)) (hb : x.busy = true) (hq : x.pops = false) :
    Inv s t f N (n + 1) (pushAsk t f ws x).2 (l1 ++ wPush t f ws x :: l2) := by
  have H := h
  obtain ⟨⟨hlen, h64, htag⟩, F, hF, hp, hall⟩ := h
  obtain ⟨hpok, hk0, hown, hk, h3⟩ := (hall x (by simp) hb).2 hq
  have hh0 : 0 ≤ wGet ws 2 := (wGet_w64 h64 2).1
  obtain ⟨pops, busy, px, ⟨k, sl, hd, tr⟩, own⟩ := x
  dsimp only at hb hq hpok hk0 hk h3 hown
  subst hb hq
  obtain ⟨o, rfl⟩ := hown
  obtain ⟨hk9, hw9, hsl⟩ := hpok
  unfold PsOk at hk9
  dsimp only at hk9 hw9 hsl
  rcases hk9 with rfl | rfl | rfl | rfl
  · exact absurd rfl hk0
  · have ea : pushAsk t f ws ⟨false, true, px, (1, sl, hd, tr), sl :: o⟩ = (wGet ws 2, ws) := by simp [pushAsk, psAsk, mDo]
    have ep : wPush t f ws ⟨false, true, px, (1, sl, hd, tr), sl :: o⟩ = ⟨false, true, px, (2, sl, wGet ws 2, tr), sl :: o⟩ := by
      unfold wPush
      rw [ea]
      simp [psTook]
    rw [ea, ep]
    refine inv_swap H rfl fun _ => ⟨fun h => by simp at h, fun _ => ⟨⟨by simp [PsOk], wGet_w64 h64 2, .inr (hsl.resolve_left (by omega))⟩, by simp, ⟨o, rfl⟩, fun _ => Int.le_refl _, by simp⟩⟩
  · have hsl' := hsl.resolve_left (by omega)
    have ea : pushAsk t f ws ⟨false, true, px, (2, sl, hd, tr), sl :: o⟩ = (0, wPut ws (nB t f sl + 2) (hd % 65536)) := by simp [pushAsk, psAsk, mDo, nB]
    have ep : wPush t f ws ⟨false, true, px, (2, sl, hd, tr), sl :: o⟩ = ⟨false, true, px, (3, sl, hd, tr), sl :: o⟩ := by
      unfold wPush
      rw [ea]
      simp [psTook]
    rw [ea, ep]
    have hge := nB_ge (t := t) hf (y := sl) (by omega)
    have hl : nB t f sl + 2 < ws.length := by have := hNB sl (by omega) hsl'.2; omega
    refine inv_link hs ht hf hNB H (by simp) ⟨by omega, by omega⟩ rfl fun _ => ⟨fun h => by simp at h, fun _ => ⟨⟨by simp [PsOk], hw9, .inr hsl'⟩, by simp, ⟨o, rfl⟩, fun _ => ?_, fun _ _ => ?_⟩⟩
    · rw [wGet_put (by omega) hl, if_neg (by omega)]
      exact hk (by omega)
    · rw [nxt_put hf (by omega) hl, if_pos rfl]
  · have hsl' := hsl.resolve_left (by omega)
    by_cases e : wGet ws 2 = hd
    · have htg : hd / 65536 ≤ 1000 := by rw [← e]; omega
      have hT := hturn_parts (h := hd) (x := sl) (by omega) ⟨by omega, by omega⟩ htg
      have ea : pushAsk t f ws ⟨false, true, px, (3, sl, hd, tr), sl :: o⟩ = (1, wPut ws 2 (hturn hd sl)) := by
        simp [pushAsk, psAsk, mDo, e]
        omega
      have ep : wPush t f ws ⟨false, true, px, (3, sl, hd, tr), sl :: o⟩ = ⟨false, false, px, (0, sl, hd, tr), o⟩ := by
        unfold wPush
        rw [ea]
        simp [psTook]
      rw [ea, ep]
      exact inv_give hs ht hf h2N H rfl (by rw [h3 rfl e.symm, e]) (hturn_bound _ _) hT.1 (by rw [hT.2, e]) rfl rfl
    · have ea : pushAsk t f ws ⟨false, true, px, (3, sl, hd, tr), sl :: o⟩ = (0, ws) := by simp [pushAsk, psAsk, mDo, e]
      have ep : wPush t f ws ⟨false, true, px, (3, sl, hd, tr), sl :: o⟩ = ⟨false, true, px, (1, sl, hd, wrap64 (tr + 1)), sl :: o⟩ := by
        unfold wPush
        rw [ea]
        simp [psTook]
      rw [ea, ep]
      exact inv_swap H rfl fun _ => ⟨fun h => by simp at h, fun _ => ⟨⟨by simp [PsOk], hw9, .inr hsl'⟩, by simp, ⟨o, rfl⟩, by simp, by simp⟩⟩
theorem inv_step (hs : 1 ≤ s ∧ s ≤ 1000) (ht : 1 ≤ t) (hf : 4 ≤ f) (h2N : 2 < N) (hNB : ∀ k, 0 ≤ k → k ≤ s → nB t f k + 2 < N) (hn : n ≤ 900) (h : Inv s t f N n ws (l1 ++ x :: l2)) (hb : x.busy = true) :
    Inv s t f N (n + 1) (wWords t f ws x) (l1 ++ wStep s t f ws x :: l2) := by
  unfold wWords wStep
  cases hq : x.pops with
  | true => exact inv_pop hs ht hf h2N hn h hb hq
  | false => exact inv_push hs ht hf h2N hNB hn h hb hq
/-- What the law asks. -/
theorem inv_parted {xs : List Wk} (hs : 1 ≤ s ∧ s ≤ 1000) (h : Inv s t f N n ws xs) : ∃ F, frR ws s t f = (F, true) ∧ (F ++ xs.flatMap (·.own)).length = (s - 1).toNat ∧ ∀ k, 2 ≤ k → k ≤ s → k ∈ F ++ xs.flatMap (·.own) := by
  obtain ⟨_, F, hF, hp, _⟩ := h
  refine ⟨F, hF.frR (by omega), by rw [hp.length_eq, rg2_len], fun k h1 h2 => ?_⟩
  rw [hp.mem_iff, rg2_mem]
  omega
theorem ch_beg (hs : 1 ≤ s ∧ s ≤ 1000) (ht : 1 ≤ t ∧ t ≤ 64) (hf : 4 ≤ f ∧ f ≤ 64) : ∀ (d m : Nat), (m : Int) + 2 + d = s → Ch (nxt (begL s t f) t f) ((m : Int) + 2) ((List.range' m (d + 1)).map fun (i : Nat) => (i : Int) + 2)
  | 0, m, hm => by
    refine ⟨rfl, ?_⟩
    show nxt (begL s t f) t f ((m : Int) + 2) = 0
    rw [beg_nxt hs ht hf (by omega), if_neg (by omega)]
  | d + 1, m, hm => by
    refine ⟨rfl, ?_⟩
    show Ch _ (nxt (begL s t f) t f ((m : Int) + 2)) _
    rw [beg_nxt hs ht hf (by omega), if_pos (by omega)]
    have := ch_beg hs ht hf d (m + 1) (by omega)
    rw [show (m : Int) + 2 + 1 = ((m + 1 : Nat) : Int) + 2 by omega]
    exact this
def wk0 : Wk := ⟨false, false, (0, 0, 0, 0, 0), (0, 0, 0, 0), []⟩
theorem inv_beg (hs : 1 ≤ s ∧ s ≤ 1000) (ht : 1 ≤ t ∧ t ≤ 64) (hf : 4 ≤ f ∧ f ≤ 64) : Inv s t f (begL s t f).length 0 (begL s t f) [wk0, wk0, wk0, wk0] := by
  have hsp := size_pos hs ht hf
  have h2 : wGet (begL s t f) 2 = if 2 ≤ s then 2 else 0 := by
    rw [beg_get (by omega)]
    unfold begAt
    rw [if_pos rfl]
  refine ⟨⟨rfl, begL_w64 hs.2, by rw [h2]; split <;> decide⟩, rg2 (s - 1).toNat, ⟨?_, rg2_nodup _, fun x hx => by rw [rg2_mem] at hx; omega⟩, ?_, fun x hx => ?_⟩
  · rw [h2]
    by_cases h : 2 ≤ s
    · rw [if_pos h]
      have := ch_beg hs ht hf (s - 2).toNat 0 (by omega)
      rw [show (s - 2).toNat + 1 = (s - 1).toNat by omega, ← List.range_eq_range'] at this
      exact this
    · rw [if_neg h, show (s - 1).toNat = 0 by omega]
      rfl
  · simp [wk0]
  · simp only [List.mem_cons, List.not_mem_nil, or_false, or_self] at hx
    subst hx
    exact wok_idle rfl
end
end Go.Proofs.YteiidfklepjpmaaDoor

/-
  A worker of StackParts: where it lies; begin.
-/
namespace Go.Proofs.YteiidfklepjpmaaDoor
open Go.RowKit
attribute [local go_sem] past_cell past_cell_add

abbrev LT := Int × Int × Int × Int × Int
/-- The cells of a worker. -/
def wkL (P B : Bool) (y : LT) (px : PxT) (z : LT) (ux : UxT) (A : Option Addr) (n c : Nat) : List Value :=
  [.bool P, .bool B, .int .i64 y.1, .int .i64 y.2.1, .int .i64 y.2.2.1, .int .i64 y.2.2.2.1, .int .i64 y.2.2.2.2, .int .i64 px.1, .int .i64 px.2.1, .int .u64 px.2.2.1, .int .i64 px.2.2.2.1, .int .i64 px.2.2.2.2,
   .int .i64 z.1, .int .i64 z.2.1, .int .i64 z.2.2.1, .int .i64 z.2.2.2.1, .int .i64 z.2.2.2.2, .int .i64 ux.1, .int .i64 ux.2.1, .int .u64 ux.2.2.1, .int .i64 ux.2.2.2, .slice A n c]
theorem Mid.drew {w : World} {g : Nat} {T : TypeId} {pre m post : List Value} (h : Mid w g T pre m post) : Mid w.drew g T pre m post := Blk.drew h
theorem Mid.wk {w : World} {g : Nat} {T : TypeId} {pre m m' post : List Value} (h : Mid w g T pre m post) (e : m = m') : Mid w g T pre m' post := e ▸ h
set_option linter.unusedSimpArgs false in
set_option maxRecDepth 100000 in
set_option maxHeartbeats 2000000 in
theorem begin_pop (s t f l p : Int) (P B0 odd : Bool) (y : LT) (px : PxT) (z : LT) (ux : UxT) (A : Option Addr) (n c : Nat) (g o : Nat) (pre post : List Value) (w : World) (hm : Mid w g 41 pre (wkL P B0 y px z ux A n c) post) (ho : pre.length = o) (hc : cfgOk s t f l p = true) (hn : (decide (n = 0) || odd) = true) :
    Calls Tryd.prog 9 #[.pointer (some ⟨g, o, none⟩), .agg #[.int .i64 s, .int .i64 t, .int .i64 f, .int .i64 l, .int .i64 p], .bool odd] w fun e w' => e = .returned (.tuple #[]) ∧ Mid w' g 41 pre (wkL true true (s, t, f, l, p) (1, 0, 0, 0, 0) z ux A n c) post ∧ w.grownBy w' (some g) := by
  have hb := cfgOk_iff.1 hc
  have hs : 1 ≤ s ∧ s ≤ 1000 := by omega
  have ht : 1 ≤ t ∧ t ≤ 64 := by omega
  have hf : 4 ≤ f ∧ f ≤ 64 := by omega
  clear hb hc
  have NP := hide (fun w2 => pnew_yes s t f l p w2 hs ht hf)
  clear hs ht hf
  obtain ⟨y1, y2, y3, y4, y5⟩ := y
  obtain ⟨p1, p2, p3, p4, p5⟩ := px
  obtain ⟨z1, z2, z3, z4, z5⟩ := z
  obtain ⟨u1, u2, u3, u4⟩ := ux
  have hn' : ((n : Int) == 0) = true ∨ ((n : Int) == 0) = false ∧ odd = true := by
    by_cases h : n = 0
    · left; simp [h]
    · right; simp [h] at hn; exact ⟨by simp [h], hn⟩
  simp only [wkL] at hm ⊢
  have hgx : g < w.heap.size := Blk.lt hm
  have hgx1 : g ≠ w.heap.size := by omega
  rcases hn' with h9 | ⟨h9, rfl⟩
  · skip
    have m1 : Mid (w.setCell ⟨g, o + 1, none⟩ (.bool true)) g 41 pre [.bool P, .bool true, .int .i64 y1, .int .i64 y2, .int .i64 y3, .int .i64 y4, .int .i64 y5, .int .i64 p1, .int .i64 p2, .int .u64 p3, .int .i64 p4, .int .i64 p5, .int .i64 z1, .int .i64 z2, .int .i64 z3, .int .i64 z4, .int .i64 z5, .int .i64 u1, .int .i64 u2, .int .u64 u3, .int .i64 u4, .slice A n c] post := hm.set1 (a := [.bool P]) (x := .bool B0) (b := [.int .i64 y1, .int .i64 y2, .int .i64 y3, .int .i64 y4, .int .i64 y5, .int .i64 p1, .int .i64 p2, .int .u64 p3, .int .i64 p4, .int .i64 p5, .int .i64 z1, .int .i64 z2, .int .i64 z3, .int .i64 z4, .int .i64 z5, .int .i64 u1, .int .i64 u2, .int .u64 u3, .int .i64 u4, .slice A n c]) (by simp [ho]) _
    have m2 : Mid ((w.setCell ⟨g, o + 1, none⟩ (.bool true)).setCell ⟨g, o, none⟩ (.bool true)) g 41 pre [.bool true, .bool true, .int .i64 y1, .int .i64 y2, .int .i64 y3, .int .i64 y4, .int .i64 y5, .int .i64 p1, .int .i64 p2, .int .u64 p3, .int .i64 p4, .int .i64 p5, .int .i64 z1, .int .i64 z2, .int .i64 z3, .int .i64 z4, .int .i64 z5, .int .i64 u1, .int .i64 u2, .int .u64 u3, .int .i64 u4, .slice A n c] post := m1.set1 (a := []) (x := .bool P) (b := [.bool true, .int .i64 y1, .int .i64 y2, .int .i64 y3, .int .i64 y4, .int .i64 y5, .int .i64 p1, .int .i64 p2, .int .u64 p3, .int .i64 p4, .int .i64 p5, .int .i64 z1, .int .i64 z2, .int .i64 z3, .int .i64 z4, .int .i64 z5, .int .i64 u1, .int .i64 u2, .int .u64 u3, .int .i64 u4, .slice A n c]) (by simp [ho]) _
    have G2 := ((World.grownBy.refl w (some g)).trans (grown_sets g [.bool true] (o + 1) w)).trans (grown_sets g [.bool true] o (w.setCell ⟨g, o + 1, none⟩ (.bool true)))
    simp only [World.setCells] at G2
    have c1 := hm.cell ho 1 (by simp)
    simp only [Nat.add_zero, List.getElem?_cons_zero, List.getElem?_cons_succ] at c1
    have f0 := fun i => hm.frozen i
    have d0 := m1.cell ho 0 (by simp)
    simp only [Nat.add_zero, List.getElem?_cons_zero, List.getElem?_cons_succ] at d0
    have d21 := m1.cell ho 21 (by simp)
    simp only [Nat.add_zero, List.getElem?_cons_zero, List.getElem?_cons_succ] at d21
    have f1 := fun i => m1.frozen i
    have e0 := m2.cell ho 0 (by simp)
    simp only [Nat.add_zero, List.getElem?_cons_zero, List.getElem?_cons_succ] at e0
    have f2 := fun i => m2.frozen i
    go_enter Tryd.func9, Tryd.ntmps9
    go_wp2_with fail
    have B3 := (Below.refl ((w.setCell ⟨g, o + 1, none⟩ (.bool true)).setCell ⟨g, o, none⟩ (.bool true)).heap.size ((w.setCell ⟨g, o + 1, none⟩ (.bool true)).setCell ⟨g, o, none⟩ (.bool true))).alloc (Nat.le_refl _) (.cells #[.int .i64 s, .int .i64 t, .int .i64 f, .int .i64 l, .int .i64 p] 28)
    have m3 := m2.below B3 (Blk.lt m2)
    have G3 := G2.trans (grown_below B3 (some g))
    refine (NP.out _).mono ?_
    rintro e w4 ⟨rfl, hb4⟩
    have m4 := m3.below hb4 (Blk.lt m3)
    have G4 := G3.trans (grown_below hb4 (some g))
    clear m1 m2 m3 G2 G3 hm hb4 B3 c1 f0 d0 d21 f1 e0 f2
    go_wp2_with (first | (refine wpList_store_mid rfl 37 (.tmp 29) (.tmp 27) rfl g (o + 2) #[.int .i64 s, .int .i64 t, .int .i64 f, .int .i64 l, .int .i64 p, .int .i64 1, .int .i64 0, .int .u64 0, .int .i64 0, .int .i64 0] (by rfl) (by rfl) (m4.there (a := [.bool true, .bool true]) (m := [.int .i64 y1, .int .i64 y2, .int .i64 y3, .int .i64 y4, .int .i64 y5, .int .i64 p1, .int .i64 p2, .int .u64 p3, .int .i64 p4, .int .i64 p5]) (b := [.int .i64 z1, .int .i64 z2, .int .i64 z3, .int .i64 z4, .int .i64 z5, .int .i64 u1, .int .i64 u2, .int .u64 u3, .int .i64 u4, .slice A n c]) (by simp [ho]) rfl) (by kernel_rfl) (by kernel_rfl) ?_))
    refine Great.bodyPost_end0 (by kernel_rfl) rfl ?_
    have m5 : Mid (w4.setCells g (o + 2) [.int .i64 s, .int .i64 t, .int .i64 f, .int .i64 l, .int .i64 p, .int .i64 1, .int .i64 0, .int .u64 0, .int .i64 0, .int .i64 0]) g 41 pre [.bool true, .bool true, .int .i64 s, .int .i64 t, .int .i64 f, .int .i64 l, .int .i64 p, .int .i64 1, .int .i64 0, .int .u64 0, .int .i64 0, .int .i64 0, .int .i64 z1, .int .i64 z2, .int .i64 z3, .int .i64 z4, .int .i64 z5, .int .i64 u1, .int .i64 u2, .int .u64 u3, .int .i64 u4, .slice A n c] post := m4.sets (a := [.bool true, .bool true]) (m := [.int .i64 y1, .int .i64 y2, .int .i64 y3, .int .i64 y4, .int .i64 y5, .int .i64 p1, .int .i64 p2, .int .u64 p3, .int .i64 p4, .int .i64 p5]) (b := [.int .i64 z1, .int .i64 z2, .int .i64 z3, .int .i64 z4, .int .i64 z5, .int .i64 u1, .int .i64 u2, .int .u64 u3, .int .i64 u4, .slice A n c]) (by simp [ho]) rfl
    exact ⟨rfl, m5, G4.trans (grown_sets g _ _ w4)⟩
  · skip
    have m1 : Mid (w.setCell ⟨g, o + 1, none⟩ (.bool true)) g 41 pre [.bool P, .bool true, .int .i64 y1, .int .i64 y2, .int .i64 y3, .int .i64 y4, .int .i64 y5, .int .i64 p1, .int .i64 p2, .int .u64 p3, .int .i64 p4, .int .i64 p5, .int .i64 z1, .int .i64 z2, .int .i64 z3, .int .i64 z4, .int .i64 z5, .int .i64 u1, .int .i64 u2, .int .u64 u3, .int .i64 u4, .slice A n c] post := hm.set1 (a := [.bool P]) (x := .bool B0) (b := [.int .i64 y1, .int .i64 y2, .int .i64 y3, .int .i64 y4, .int .i64 y5, .int .i64 p1, .int .i64 p2, .int .u64 p3, .int .i64 p4, .int .i64 p5, .int .i64 z1, .int .i64 z2, .int .i64 z3, .int .i64 z4, .int .i64 z5, .int .i64 u1, .int .i64 u2, .int .u64 u3, .int .i64 u4, .slice A n c]) (by simp [ho]) _
    have m2 : Mid ((w.setCell ⟨g, o + 1, none⟩ (.bool true)).setCell ⟨g, o, none⟩ (.bool true)) g 41 pre [.bool true, .bool true, .int .i64 y1, .int .i64 y2, .int .i64 y3, .int .i64 y4, .int .i64 y5, .int .i64 p1, .int .i64 p2, .int .u64 p3, .int .i64 p4, .int .i64 p5, .int .i64 z1, .int .i64 z2, .int .i64 z3, .int .i64 z4, .int .i64 z5, .int .i64 u1, .int .i64 u2, .int .u64 u3, .int .i64 u4, .slice A n c] post := m1.set1 (a := []) (x := .bool P) (b := [.bool true, .int .i64 y1, .int .i64 y2, .int .i64 y3, .int .i64 y4, .int .i64 y5, .int .i64 p1, .int .i64 p2, .int .u64 p3, .int .i64 p4, .int .i64 p5, .int .i64 z1, .int .i64 z2, .int .i64 z3, .int .i64 z4, .int .i64 z5, .int .i64 u1, .int .i64 u2, .int .u64 u3, .int .i64 u4, .slice A n c]) (by simp [ho]) _
    have G2 := ((World.grownBy.refl w (some g)).trans (grown_sets g [.bool true] (o + 1) w)).trans (grown_sets g [.bool true] o (w.setCell ⟨g, o + 1, none⟩ (.bool true)))
    simp only [World.setCells] at G2
    have c1 := hm.cell ho 1 (by simp)
    simp only [Nat.add_zero, List.getElem?_cons_zero, List.getElem?_cons_succ] at c1
    have f0 := fun i => hm.frozen i
    have d0 := m1.cell ho 0 (by simp)
    simp only [Nat.add_zero, List.getElem?_cons_zero, List.getElem?_cons_succ] at d0
    have d21 := m1.cell ho 21 (by simp)
    simp only [Nat.add_zero, List.getElem?_cons_zero, List.getElem?_cons_succ] at d21
    have f1 := fun i => m1.frozen i
    have e0 := m2.cell ho 0 (by simp)
    simp only [Nat.add_zero, List.getElem?_cons_zero, List.getElem?_cons_succ] at e0
    have f2 := fun i => m2.frozen i
    go_enter Tryd.func9, Tryd.ntmps9
    go_wp2_with fail
    have B3 := (Below.refl ((w.setCell ⟨g, o + 1, none⟩ (.bool true)).setCell ⟨g, o, none⟩ (.bool true)).heap.size ((w.setCell ⟨g, o + 1, none⟩ (.bool true)).setCell ⟨g, o, none⟩ (.bool true))).alloc (Nat.le_refl _) (.cells #[.int .i64 s, .int .i64 t, .int .i64 f, .int .i64 l, .int .i64 p] 28)
    have m3 := m2.below B3 (Blk.lt m2)
    have G3 := G2.trans (grown_below B3 (some g))
    refine (NP.out _).mono ?_
    rintro e w4 ⟨rfl, hb4⟩
    have m4 := m3.below hb4 (Blk.lt m3)
    have G4 := G3.trans (grown_below hb4 (some g))
    clear m1 m2 m3 G2 G3 hm hb4 B3 c1 f0 d0 d21 f1 e0 f2
    go_wp2_with (first | (refine wpList_store_mid rfl 37 (.tmp 29) (.tmp 27) rfl g (o + 2) #[.int .i64 s, .int .i64 t, .int .i64 f, .int .i64 l, .int .i64 p, .int .i64 1, .int .i64 0, .int .u64 0, .int .i64 0, .int .i64 0] (by rfl) (by rfl) (m4.there (a := [.bool true, .bool true]) (m := [.int .i64 y1, .int .i64 y2, .int .i64 y3, .int .i64 y4, .int .i64 y5, .int .i64 p1, .int .i64 p2, .int .u64 p3, .int .i64 p4, .int .i64 p5]) (b := [.int .i64 z1, .int .i64 z2, .int .i64 z3, .int .i64 z4, .int .i64 z5, .int .i64 u1, .int .i64 u2, .int .u64 u3, .int .i64 u4, .slice A n c]) (by simp [ho]) rfl) (by kernel_rfl) (by kernel_rfl) ?_))
    refine Great.bodyPost_end0 (by kernel_rfl) rfl ?_
    have m5 : Mid (w4.setCells g (o + 2) [.int .i64 s, .int .i64 t, .int .i64 f, .int .i64 l, .int .i64 p, .int .i64 1, .int .i64 0, .int .u64 0, .int .i64 0, .int .i64 0]) g 41 pre [.bool true, .bool true, .int .i64 s, .int .i64 t, .int .i64 f, .int .i64 l, .int .i64 p, .int .i64 1, .int .i64 0, .int .u64 0, .int .i64 0, .int .i64 0, .int .i64 z1, .int .i64 z2, .int .i64 z3, .int .i64 z4, .int .i64 z5, .int .i64 u1, .int .i64 u2, .int .u64 u3, .int .i64 u4, .slice A n c] post := m4.sets (a := [.bool true, .bool true]) (m := [.int .i64 y1, .int .i64 y2, .int .i64 y3, .int .i64 y4, .int .i64 y5, .int .i64 p1, .int .i64 p2, .int .u64 p3, .int .i64 p4, .int .i64 p5]) (b := [.int .i64 z1, .int .i64 z2, .int .i64 z3, .int .i64 z4, .int .i64 z5, .int .i64 u1, .int .i64 u2, .int .u64 u3, .int .i64 u4, .slice A n c]) (by simp [ho]) rfl
    exact ⟨rfl, m5, G4.trans (grown_sets g _ _ w4)⟩

theorem OwR.some_ {w : World} {lo n c : Nat} {A : Option Addr} {xs : List Int} (h : OwR w lo A n c xs) (h0 : n ≠ 0) : ∃ b off, A = some ⟨b, off, none⟩ := by
  rcases h.2.2.2 with ⟨rfl, h9⟩ | ⟨b, off, cur, rfl, _⟩
  · have := h.2.1; omega
  · exact ⟨b, off, rfl⟩
theorem OwR.first {w : World} {lo n c b off : Nat} {x : Int} {xs : List Int} (h : OwR w lo (some ⟨b, off, none⟩) n c (x :: xs)) : w.cell? ⟨b, off, none⟩ = some (.int .i64 x) := by
  have h1 := h.1
  obtain ⟨_, e, _, hr⟩ := h.reads.2 (by simp at h1; omega)
  injection e with e
  subst e
  have := hr 0 (.int .i64 x) rfl
  rw [Addr.add_mid] at this
  exact this
set_option linter.unusedSimpArgs false in
set_option maxRecDepth 100000 in
set_option maxHeartbeats 2000000 in
theorem begin_push (s t f l p : Int) (P B0 odd : Bool) (y : LT) (px : PxT) (z : LT) (ux : UxT) (A : Option Addr) (n c lo : Nat) (g o : Nat) (pre post : List Value) (xs : List Int) (w : World) (hm : Mid w g 41 pre (wkL P B0 y px z ux A n c) post) (ho : pre.length = o) (hown : OwR w lo A n c xs) (hc : cfgOk s t f l p = true) (x : Int) (hx : ∃ o', xs = x :: o') (h1 : 1 ≤ x ∧ x ≤ s) (hodd : odd = false) :
    Calls Tryd.prog 9 #[.pointer (some ⟨g, o, none⟩), .agg #[.int .i64 s, .int .i64 t, .int .i64 f, .int .i64 l, .int .i64 p], .bool odd] w fun e w' => e = .returned (.tuple #[]) ∧ Mid w' g 41 pre (wkL false true y px (s, t, f, l, p) (1, x, 0, 0) A n c) post ∧ w.grownBy w' (some g) := by
  have hb := cfgOk_iff.1 hc
  have hs : 1 ≤ s ∧ s ≤ 1000 := by omega
  have ht : 1 ≤ t ∧ t ≤ 64 := by omega
  have hf : 4 ≤ f ∧ f ≤ 64 := by omega
  clear hb hc
  have NP := hide (fun w2 => psnew_yes s t f l p x w2 hs ht hf h1.1 h1.2)
  clear hs ht hf
  obtain ⟨y1, y2, y3, y4, y5⟩ := y
  obtain ⟨p1, p2, p3, p4, p5⟩ := px
  obtain ⟨z1, z2, z3, z4, z5⟩ := z
  obtain ⟨u1, u2, u3, u4⟩ := ux
  obtain ⟨o', rfl⟩ := hx
  subst hodd
  have hn0 : n ≠ 0 := by have := hown.1; simp at this; omega
  have h9 : ((n : Int) == 0) = false := by simp [hn0]
  have hni : (0 : Int) < (n : Int) := by omega
  have hnp : 0 < n := by omega
  obtain ⟨b, off, rfl⟩ := hown.some_ hn0
  clear h1 hn0
  simp only [wkL] at hm ⊢
  have hgx : g < w.heap.size := Blk.lt hm
  have hgx1 : g ≠ w.heap.size := by omega
  have m1 : Mid (w.setCell ⟨g, o + 1, none⟩ (.bool true)) g 41 pre [.bool P, .bool true, .int .i64 y1, .int .i64 y2, .int .i64 y3, .int .i64 y4, .int .i64 y5, .int .i64 p1, .int .i64 p2, .int .u64 p3, .int .i64 p4, .int .i64 p5, .int .i64 z1, .int .i64 z2, .int .i64 z3, .int .i64 z4, .int .i64 z5, .int .i64 u1, .int .i64 u2, .int .u64 u3, .int .i64 u4, .slice (some ⟨b, off, none⟩) n c] post := hm.set1 (a := [.bool P]) (x := .bool B0) (b := [.int .i64 y1, .int .i64 y2, .int .i64 y3, .int .i64 y4, .int .i64 y5, .int .i64 p1, .int .i64 p2, .int .u64 p3, .int .i64 p4, .int .i64 p5, .int .i64 z1, .int .i64 z2, .int .i64 z3, .int .i64 z4, .int .i64 z5, .int .i64 u1, .int .i64 u2, .int .u64 u3, .int .i64 u4, .slice (some ⟨b, off, none⟩) n c]) (by simp [ho]) _
  have m2 : Mid ((w.setCell ⟨g, o + 1, none⟩ (.bool true)).setCell ⟨g, o, none⟩ (.bool false)) g 41 pre [.bool false, .bool true, .int .i64 y1, .int .i64 y2, .int .i64 y3, .int .i64 y4, .int .i64 y5, .int .i64 p1, .int .i64 p2, .int .u64 p3, .int .i64 p4, .int .i64 p5, .int .i64 z1, .int .i64 z2, .int .i64 z3, .int .i64 z4, .int .i64 z5, .int .i64 u1, .int .i64 u2, .int .u64 u3, .int .i64 u4, .slice (some ⟨b, off, none⟩) n c] post := m1.set1 (a := []) (x := .bool P) (b := [.bool true, .int .i64 y1, .int .i64 y2, .int .i64 y3, .int .i64 y4, .int .i64 y5, .int .i64 p1, .int .i64 p2, .int .u64 p3, .int .i64 p4, .int .i64 p5, .int .i64 z1, .int .i64 z2, .int .i64 z3, .int .i64 z4, .int .i64 z5, .int .i64 u1, .int .i64 u2, .int .u64 u3, .int .i64 u4, .slice (some ⟨b, off, none⟩) n c]) (by simp [ho]) _
  have G2 := ((World.grownBy.refl w (some g)).trans (grown_sets g [.bool true] (o + 1) w)).trans (grown_sets g [.bool false] o (w.setCell ⟨g, o + 1, none⟩ (.bool true)))
  simp only [World.setCells] at G2
  have c1 := hm.cell ho 1 (by simp)
  simp only [Nat.add_zero, List.getElem?_cons_zero, List.getElem?_cons_succ] at c1
  have f0 := fun i => hm.frozen i
  have d0 := m1.cell ho 0 (by simp)
  simp only [Nat.add_zero, List.getElem?_cons_zero, List.getElem?_cons_succ] at d0
  have d21 := m1.cell ho 21 (by simp)
  simp only [Nat.add_zero, List.getElem?_cons_zero, List.getElem?_cons_succ] at d21
  have f1 := fun i => m1.frozen i
  have e0 := m2.cell ho 0 (by simp)
  simp only [Nat.add_zero, List.getElem?_cons_zero, List.getElem?_cons_succ] at e0
  have f2 := fun i => m2.frozen i
  go_enter Tryd.func9, Tryd.ntmps9
  go_wp2_with fail
  have hne := hown.type hm (by decide)
  have own3 := ((hown.setFar hne (o + 1) (.bool true)).setFar hne o (.bool false)).alloc (.cells #[.int .i64 s, .int .i64 t, .int .i64 f, .int .i64 l, .int .i64 p] 28)
  have B3 := (Below.refl ((w.setCell ⟨g, o + 1, none⟩ (.bool true)).setCell ⟨g, o, none⟩ (.bool false)).heap.size ((w.setCell ⟨g, o + 1, none⟩ (.bool true)).setCell ⟨g, o, none⟩ (.bool false))).alloc (Nat.le_refl _) (.cells #[.int .i64 s, .int .i64 t, .int .i64 f, .int .i64 l, .int .i64 p] 28)
  have m3 := m2.below B3 (Blk.lt m2)
  have G3 := G2.trans (grown_below B3 (some g))
  have bl := Blk.new ((w.setCell ⟨g, o + 1, none⟩ (.bool true)).setCell ⟨g, o, none⟩ (.bool false)) 28 #[.int .i64 s, .int .i64 t, .int .i64 f, .int .i64 l, .int .i64 p]
  rw [show ((w.setCell ⟨g, o + 1, none⟩ (.bool true)).setCell ⟨g, o, none⟩ (.bool false)).heap.size = w.heap.size by simp] at bl
  clear m1 m2 G2 hm B3 c1 f0 d0 d21 f1 e0 f2 hown hne
  generalize ((w.setCell ⟨g, o + 1, none⟩ (.bool true)).setCell ⟨g, o, none⟩ (.bool false)).alloc (.cells #[.int .i64 s, .int .i64 t, .int .i64 f, .int .i64 l, .int .i64 p] 28) = w2 at *
  refine wp_region_heldZ [11] (fun w' => w'.cell? ⟨w.heap.size, 0, none⟩ = some (.int .i64 s) ∧ w'.cell? ⟨w.heap.size, 1, none⟩ = some (.int .i64 t) ∧ w'.cell? ⟨w.heap.size, 2, none⟩ = some (.int .i64 f) ∧ w'.cell? ⟨w.heap.size, 3, none⟩ = some (.int .i64 l) ∧ w'.cell? ⟨w.heap.size, 4, none⟩ = some (.int .i64 p) ∧ w'.cell? ⟨g, o + 21, none⟩ = some (.slice (some ⟨b, off, none⟩) n c) ∧ w'.cell? ⟨b, off, none⟩ = some (.int .i64 x)) (by kernel_rfl) (by exact ⟨bl.cell 0, bl.cell 1, bl.cell 2, bl.cell 3, bl.cell 4, m3.cell ho 21 (by simp), own3.first⟩) (fun hHeld => ?_)
  replace bl := bl.drew
  replace m3 := Mid.drew m3
  replace own3 := own3.drew
  replace G3 := G3.trans (grown_below (Below.refl _ _).drew (some g))
  generalize w2.drew = wd at *
  refine' wpAnyZ_takeA (i := 0) (v := ?_) (opAt rfl) (by kernel_rfl) (by kernel_rfl) (by kernel_rfl) (by kernel_rfl) (fun _ _ _ h => h) (by assumption) (by rfl) (fun w hSw => ?_) ?_
  rotate_left
  · (try dsimp only at hSw); go_simp; (try with_reducible rfl)
  try simp only [Act.put, List.setIfInBounds_toArray, List.set_cons_zero, List.set_cons_succ]
  refine' wpAnyZ_takeA (i := 1) (v := ?_) (opAt rfl) (by kernel_rfl) (by kernel_rfl) (by kernel_rfl) (by kernel_rfl) (fun _ _ _ h => h) (by assumption) (by rfl) (fun w hSw => ?_) ?_
  rotate_left
  · (try dsimp only at hSw); go_simp; (try with_reducible rfl)
  try simp only [Act.put, List.setIfInBounds_toArray, List.set_cons_zero, List.set_cons_succ]
  refine' wpAnyZ_takeA (i := 2) (v := ?_) (opAt rfl) (by kernel_rfl) (by kernel_rfl) (by kernel_rfl) (by kernel_rfl) (fun _ _ _ h => h) (by assumption) (by rfl) (fun w hSw => ?_) ?_
  rotate_left
  · (try dsimp only at hSw); go_simp; (try with_reducible rfl)
  try simp only [Act.put, List.setIfInBounds_toArray, List.set_cons_zero, List.set_cons_succ]
  refine' wpAnyZ_takeA (i := 3) (v := ?_) (opAt rfl) (by kernel_rfl) (by kernel_rfl) (by kernel_rfl) (by kernel_rfl) (fun _ _ _ h => h) (by assumption) (by rfl) (fun w hSw => ?_) ?_
  rotate_left
  · (try dsimp only at hSw); go_simp; (try with_reducible rfl)
  try simp only [Act.put, List.setIfInBounds_toArray, List.set_cons_zero, List.set_cons_succ]
  refine' wpAnyZ_takeA (i := 4) (v := ?_) (opAt rfl) (by kernel_rfl) (by kernel_rfl) (by kernel_rfl) (by kernel_rfl) (fun _ _ _ h => h) (by assumption) (by rfl) (fun w hSw => ?_) ?_
  rotate_left
  · (try dsimp only at hSw); go_simp; (try with_reducible rfl)
  try simp only [Act.put, List.setIfInBounds_toArray, List.set_cons_zero, List.set_cons_succ]
  refine' wpAnyZ_takeA (i := 5) (v := ?_) (opAt rfl) (by kernel_rfl) (by kernel_rfl) (by kernel_rfl) (by kernel_rfl) (fun _ _ _ h => h) (by assumption) (by rfl) (fun w hSw => ?_) ?_
  rotate_left
  · (try dsimp only at hSw); go_simp; (try with_reducible rfl)
  try simp only [Act.put, List.setIfInBounds_toArray, List.set_cons_zero, List.set_cons_succ]
  refine' wpAnyZ_takeA (i := 6) (v := ?_) (opAt rfl) (by kernel_rfl) (by kernel_rfl) (by kernel_rfl) (by kernel_rfl) (fun _ _ _ h => h) (by assumption) (by rfl) (fun w hSw => ?_) ?_
  rotate_left
  · (try dsimp only at hSw); go_simp; (try with_reducible rfl)
  try simp only [Act.put, List.setIfInBounds_toArray, List.set_cons_zero, List.set_cons_succ]
  refine' wpAnyZ_takeA (i := 7) (v := ?_) (opAt rfl) (by kernel_rfl) (by kernel_rfl) (by kernel_rfl) (by kernel_rfl) (fun _ _ _ h => h) (by assumption) (by rfl) (fun w hSw => ?_) ?_
  rotate_left
  · (try dsimp only at hSw); go_simp; (try with_reducible rfl)
  try simp only [Act.put, List.setIfInBounds_toArray, List.set_cons_zero, List.set_cons_succ]
  refine wpAnyZ_ready (rs := [8]) (by kernel_rfl) (by simp) ?_
  refine AllReadyZ.cons (opAt rfl) (fun K hK => ?_) ?_
  · skip
    go_simp
    refine (NP.out _).mono ?_
    rintro e w4 ⟨rfl, hb4⟩
    replace bl := bl.below hb4 bl.lt
    replace m3 := m3.below hb4 (Blk.lt m3)
    replace own3 := own3.below hb4
    replace G3 := G3.trans (grown_below hb4 (some g))
    clear hb4
    try go_wp2_with fail
    refine hK.out _ _ (by exact ⟨bl.cell 0, bl.cell 1, bl.cell 2, bl.cell 3, bl.cell 4, m3.cell ho 21 (by simp), own3.first⟩) (fun hHeld => ?_)
    clear hK K
    try simp only [Act.put, List.setIfInBounds_toArray, List.set_cons_zero, List.set_cons_succ]
    refine' wpAnyZ_takeA (i := 9) (v := ?_) (opAt rfl) (by kernel_rfl) (by kernel_rfl) (by kernel_rfl) (by kernel_rfl) (fun _ _ _ h => h) (by assumption) (by rfl) (fun w hSw => ?_) ?_
    rotate_left
    · (try dsimp only at hSw); go_simp; (try with_reducible rfl)
    try simp only [Act.put, List.setIfInBounds_toArray, List.set_cons_zero, List.set_cons_succ]
    refine' wpAnyZ_takeA (i := 10) (v := ?_) (opAt rfl) (by kernel_rfl) (by kernel_rfl) (by kernel_rfl) (by kernel_rfl) (fun _ _ _ h => h) (by assumption) (by rfl) (fun w hSw => ?_) ?_
    rotate_left
    · (try dsimp only at hSw); go_simp; (try with_reducible rfl)
    try simp only [Act.put, List.setIfInBounds_toArray, List.set_cons_zero, List.set_cons_succ]
    refine wpAnyZ_ready (rs := [11]) (by kernel_rfl) (by simp) ?_
    refine AllReadyZ.last (opAt rfl) (by kernel_rfl) (fun K hK => ?_) ?_
    · skip
      refine wp_store_mid 39 (.tmp 40) (.tmp 38) rfl g (o + 12) #[.int .i64 s, .int .i64 t, .int .i64 f, .int .i64 l, .int .i64 p, .int .i64 1, .int .i64 x, .int .u64 0, .int .i64 0] (by rfl) (by rfl) (m3.there (a := [.bool false, .bool true, .int .i64 y1, .int .i64 y2, .int .i64 y3, .int .i64 y4, .int .i64 y5, .int .i64 p1, .int .i64 p2, .int .u64 p3, .int .i64 p4, .int .i64 p5]) (m := [.int .i64 z1, .int .i64 z2, .int .i64 z3, .int .i64 z4, .int .i64 z5, .int .i64 u1, .int .i64 u2, .int .u64 u3, .int .i64 u4]) (b := [.slice (some ⟨b, off, none⟩) n c]) (by simp [ho]) rfl) (by kernel_rfl) (by kernel_rfl) ?_
      refine hK.out _ _ ?_
      clear hK K
      try simp only [Act.put, List.setIfInBounds_toArray, List.set_cons_zero, List.set_cons_succ]
      refine wpAnyZ_done (by kernel_rfl) ?_ _
      go_wp2_with fail
      refine Great.bodyPost_end0 (by kernel_rfl) rfl ?_
      have m5 : Mid (w4.setCells g (o + 12) [.int .i64 s, .int .i64 t, .int .i64 f, .int .i64 l, .int .i64 p, .int .i64 1, .int .i64 x, .int .u64 0, .int .i64 0]) g 41 pre [.bool false, .bool true, .int .i64 y1, .int .i64 y2, .int .i64 y3, .int .i64 y4, .int .i64 y5, .int .i64 p1, .int .i64 p2, .int .u64 p3, .int .i64 p4, .int .i64 p5, .int .i64 s, .int .i64 t, .int .i64 f, .int .i64 l, .int .i64 p, .int .i64 1, .int .i64 x, .int .u64 0, .int .i64 0, .slice (some ⟨b, off, none⟩) n c] post := m3.sets (a := [.bool false, .bool true, .int .i64 y1, .int .i64 y2, .int .i64 y3, .int .i64 y4, .int .i64 y5, .int .i64 p1, .int .i64 p2, .int .u64 p3, .int .i64 p4, .int .i64 p5]) (m := [.int .i64 z1, .int .i64 z2, .int .i64 z3, .int .i64 z4, .int .i64 z5, .int .i64 u1, .int .i64 u2, .int .u64 u3, .int .i64 u4]) (b := [.slice (some ⟨b, off, none⟩) n c]) (by simp [ho]) rfl
      exact ⟨rfl, m5, G3.trans (grown_sets g _ _ w4)⟩
    exact AllReadyZ.nil
  exact AllReadyZ.nil

end Go.Proofs.YteiidfklepjpmaaDoor

/-
  A worker of StackParts: step.
-/
namespace Go.Proofs.YteiidfklepjpmaaDoor
open Go.RowKit
attribute [local go_sem] past_cell past_cell_add

/-- All but the workers, the words and the worker's slots is as it was. -/
structure Kept (w w' : World) (g gW : Nat) (A : Option Addr) : Prop where
  os : w'.os = w.os
  tape : w'.tape = w.tape
  output : w'.output = w.output
  size : w.heap.size ≤ w'.heap.size
  block : ∀ b, b < w.heap.size → b ≠ g → b ≠ gW → blkOf A ≠ some b → w'.heap[b]? = w.heap[b]?
section
variable {w w' w'' : World} {g gW lo n c : Nat} {A A' : Option Addr} {xs : List Int}
theorem Kept.refl (w : World) (g gW : Nat) (A : Option Addr) : Kept w w g gW A := ⟨rfl, rfl, rfl, Nat.le_refl _, fun _ _ _ _ _ => rfl⟩
theorem Kept.grown (h : Kept w w' g gW A) {row : Option Nat} (hg : w'.grownBy w'' row) (hr : ∀ b, row = some b → b < w.heap.size → b = g ∨ b = gW ∨ blkOf A = some b) : Kept w w'' g gW A :=
  ⟨hg.os.trans h.os, hg.tape.trans h.tape, hg.output.trans h.output, Nat.le_trans h.size hg.size, fun b hb h1 h2 h3 =>
    (hg.block b (Nat.lt_of_lt_of_le hb h.size) (fun e => (hr b e.symm hb).elim h1 fun h => h.elim h2 h3)).trans (h.block b hb h1 h2 h3)⟩
theorem Kept.below (h : Kept w w' g gW A) (hb : Below w'.heap.size w' w'') : Kept w w'' g gW A := h.grown (grown_below hb none) (fun _ e => by cases e)
theorem Kept.row (h : Kept w w' g gW A) (hg : w'.grownBy w'' (some g)) : Kept w w'' g gW A := h.grown hg (fun b e _ => .inl (by injection e with e; exact e.symm))
theorem Kept.words (h : Kept w w' g gW A) (hg : w'.grownBy w'' (some gW)) : Kept w w'' g gW A := h.grown hg (fun b e _ => .inr (.inl (by injection e with e; exact e.symm)))
theorem Kept.set1 (h : Kept w w' g gW A) (k : Nat) (v : Value) : Kept w (w'.setCell ⟨g, k, none⟩ v) g gW A := h.row (grown_sets g [v] k w')
theorem Mid.grown {T : TypeId} {pre m post : List Value} (h : Mid w g T pre m post) {row : Option Nat} (hg : w.grownBy w' row) (hne : row ≠ some g) : Mid w' g T pre m post := Blk.grown h hg (Ne.symm hne)
theorem exec_load_mid {P : Program} {w : World} {op : Oper} {a : Act} (ty : TypeId) (x : Operand) (ho : op.op = .load ty x) (b o : Nat) (hx : a.eval x = .pointer (some ⟨b, o, none⟩)) (cs : List Value) (d : TypeDesc) (hc : w.rangeAt b o cs)
    (hu : P.underlying ty = some d) (hd : d.isRow = true) (hi : (P.info? ty).map (·.size) = some cs.length) : (execOp a.eval op).run P w = .ok (.value (.agg cs.toArray)) w := by
  unfold execOp
  simp only [ho, hx, Instr.loadAt, Instr.sureAddr, Sem.run_bind, Sem.run_pure, Result.andThen_ok, run_loadVar_mid w b o ty cs d hc hu hd hi]
theorem exec_load_pop {w : World} {op : Oper} {a : Act} {b o : Nat} {cs : List Value} (hc : w.rangeAt b o cs) (hl : cs.length = 10) (x : Operand) (ho : op.op = .load 37 x) (hx : a.eval x = .pointer (some ⟨b, o, none⟩)) : (execOp a.eval op).run Tryd.prog w = .ok (.value (.agg cs.toArray)) w :=
  exec_load_mid 37 x ho b o hx cs _ hc Tryd.underlying37 rfl (by rw [hl]; kernel_rfl)
theorem exec_load_push {w : World} {op : Oper} {a : Act} {b o : Nat} {cs : List Value} (hc : w.rangeAt b o cs) (hl : cs.length = 9) (x : Operand) (ho : op.op = .load 39 x) (hx : a.eval x = .pointer (some ⟨b, o, none⟩)) : (execOp a.eval op).run Tryd.prog w = .ok (.value (.agg cs.toArray)) w :=
  exec_load_mid 39 x ho b o hx cs _ hc Tryd.underlying39 rfl (by rw [hl]; kernel_rfl)
theorem wpList_append_owr {ops : Array Oper} {rest : List Oper} {o : Oper} {a : Act} {Q : Exit → Act → World → Prop} (hgd : o.guard = none) (s x : Operand)
    (ho : o.op = .call { callee := .builtin .append, args := #[s, x], argTypes := #[24, 24] }) (h : OwR w lo A n c xs) (hs : a.eval s = .slice A n c) (y : Int) (gl : Nat)
    (hx : a.eval x = .slice (some ⟨gl, 0, none⟩) 1 1) (hb : Blk w gl 3 #[.int .i64 y]) (hlo : lo ≤ w.heap.size) (hn : n ≤ 1000)
    (k : ∀ A' c' w', OwR w' lo A' (n + 1) c' (xs ++ [y]) → w.grownBy w' (blkOf A) → (blkOf A' = blkOf A ∨ ∃ b, blkOf A' = some b ∧ w.heap.size ≤ b) → wpList Tryd.prog ops Q rest (a.put o.dst (.slice A' (n + 1) c')) w') : wpList Tryd.prog ops Q (o :: rest) a w :=
  wpList_plain hgd fun _ hK => by
    obtain ⟨A', c', w', hrun, h2, h3, h4⟩ := run_append_owr o.type h y hb hlo hn
    unfold Oper.wp execOp
    simp only [ho, resolve, invoke, builtin, Sem.run_bind, Sem.run_pure, Result.andThen_ok, List.map_toArray, List.map_cons, List.map_nil, hs, hx, hrun]
    exact hK _ _ (k A' c' w' h2 h3 h4)
end
set_option linter.unusedSimpArgs false in
set_option maxRecDepth 100000 in
set_option maxHeartbeats 2000000 in
theorem step_pop (s t f l p : Int) (B0 : Bool) (px : PxT) (z : LT) (ux : UxT) (A : Option Addr) (n c lo g o gW cW : Nat) (pre post : List Value) (xs ws : List Int) (w : World)
    (hm : Mid w g 41 pre (wkL true B0 (s, t, f, l, p) px z ux A n c) post) (ho : pre.length = o) (own : OwR w lo A n c xs) (R : RefOk w gW ws) (hs : 1 ≤ s ∧ s ≤ 1000) (ht : 1 ≤ t ∧ t ≤ 64) (hf : 4 ≤ f ∧ f ≤ 64) (hx : PpOk s px) (hn : n ≤ 1000) (hlo : lo ≤ w.heap.size)
    (a : Int) (ws' : List Int) (ha : mDo ws (pAsk t f px).1 (pAsk t f px).2.1 (pAsk t f px).2.2.1 (pAsk t f px).2.2.2 = (a, ws')) (h64 : W64 a) :
    Calls Tryd.prog 10 #[.pointer (some ⟨g, o, none⟩), .slice (some ⟨gW, 0, none⟩) ws.length cW] w fun e w' => e = .returned (.tuple #[]) ∧
      ∃ A' n' c', Mid w' g 41 pre (wkL true (!decide ((pTook s px a).1 = 0)) (s, t, f, l, p) (pTook s px a) z ux A' n' c') post ∧ OwR w' lo A' n' c' (popOwn xs (pTook s px a)) ∧ RefOk w' gW ws' ∧ Kept w w' g gW A ∧ (blkOf A' = blkOf A ∨ ∃ b, blkOf A' = some b ∧ w.heap.size ≤ b) := by
  have WA := hide (fun w2 => pwant_any s t f l p px w2 hx (.inr ⟨hs, ht, hf⟩))
  have TK := hide (fun w2 => ptook_any s t f l p a px w2 hx h64 (.inr hs))
  have DO := hide (fun w2 (h : RefOk w2 gW ws) => rdo_any gW cW (pAsk t f px).1 (pAsk t f px).2.1 (pAsk t f px).2.2.1 (pAsk t f px).2.2.2 ws w2 h)
  rw [ha] at DO
  simp only [ppV] at WA TK
  clear hx h64 hs ht hf ha
  generalize pAsk t f px = ak at *
  generalize pTook s px a = x2 at *
  obtain ⟨k1, k2, k3, k4⟩ := ak
  obtain ⟨q1, q2, q3, q4, q5⟩ := x2
  obtain ⟨p1, p2, p3, p4, p5⟩ := px
  obtain ⟨z1, z2, z3, z4, z5⟩ := z
  obtain ⟨u1, u2, u3, u4⟩ := ux
  simp only [wkL] at hm WA TK DO ⊢
  have KP := Kept.refl w g gW A
  have HN := hide hn
  have hn0 := hlo
  clear hn
  have c0 := hm.cell ho 0 (by simp)
  simp only [Nat.add_zero, List.getElem?_cons_zero, List.getElem?_cons_succ] at c0
  go_enter Tryd.func10, Tryd.ntmps10
  go_wp2_with fail
  refine wp_region_heldZ [15] (fun w' => w'.rangeAt g (o + 2) [.int .i64 s, .int .i64 t, .int .i64 f, .int .i64 l, .int .i64 p, .int .i64 p1, .int .i64 p2, .int .u64 p3, .int .i64 p4, .int .i64 p5]) (by kernel_rfl) (by exact (hm.range (a := [.bool true, .bool B0]) (m := [.int .i64 s, .int .i64 t, .int .i64 f, .int .i64 l, .int .i64 p, .int .i64 p1, .int .i64 p2, .int .u64 p3, .int .i64 p4, .int .i64 p5]) (b := [.int .i64 z1, .int .i64 z2, .int .i64 z3, .int .i64 z4, .int .i64 z5, .int .i64 u1, .int .i64 u2, .int .u64 u3, .int .i64 u4, .slice A n c]) (by simp [ho]))) (fun hHeld => ?_)
  replace hm := Mid.drew hm
  replace R := (show RefOk w.drew gW ws from Blk.drew R)
  replace own := own.drew
  replace KP := KP.below (Below.refl _ _).drew
  generalize w.drew = wd at *
  refine' wpAnyZ_takeA (i := 0) (v := ?_) (opAt rfl) (by kernel_rfl) (by kernel_rfl) (by kernel_rfl) (by kernel_rfl) (fun _ _ _ h => h) (by assumption) (by rfl) (fun w hSw => ?_) ?_
  rotate_left
  · (try dsimp only at hSw); go_simp; (try with_reducible rfl)
  try simp only [Act.put, List.setIfInBounds_toArray, List.set_cons_zero, List.set_cons_succ]
  refine' wpAnyZ_takeA (i := 1) (v := ?_) (opAt rfl) (by kernel_rfl) (by kernel_rfl) (by kernel_rfl) (by kernel_rfl) (fun _ _ _ h => h) (by assumption) (by rfl) (fun w hSw => ?_) ?_
  rotate_left
  · (try dsimp only at hSw); go_simp; (try with_reducible rfl)
  try simp only [Act.put, List.setIfInBounds_toArray, List.set_cons_zero, List.set_cons_succ]
  refine' wpAnyZ_takeA (i := 2) (v := ?_) (opAt rfl) (by kernel_rfl) (by kernel_rfl) (by kernel_rfl) (by kernel_rfl) (fun _ _ _ h => h) (by assumption) (by rfl) (fun w hSw => ?_) ?_
  rotate_left
  · (try dsimp only at hSw); go_simp; (try with_reducible rfl)
  try simp only [Act.put, List.setIfInBounds_toArray, List.set_cons_zero, List.set_cons_succ]
  refine' wpAnyZ_takeA (i := 3) (v := ?_) (opAt rfl) (by kernel_rfl) (by kernel_rfl) (by kernel_rfl) (by kernel_rfl) (fun _ _ _ h => h) (by assumption) (by rfl) (fun w hSw => ?_) ?_
  rotate_left
  · (try dsimp only at hSw); go_simp; (try with_reducible rfl)
  try simp only [Act.put, List.setIfInBounds_toArray, List.set_cons_zero, List.set_cons_succ]
  refine' wpAnyZ_takeA (i := 4) (v := ?_) (opAt rfl) (by kernel_rfl) (by kernel_rfl) (by kernel_rfl) (by kernel_rfl) (fun _ _ _ h => h) (by assumption) (by rfl) (fun w hSw => ?_) ?_
  rotate_left
  · refine exec_load_pop hSw rfl (.tmp 13) ?_ ?_ <;> rfl
  try simp only [Act.put, List.setIfInBounds_toArray, List.set_cons_zero, List.set_cons_succ]
  refine' wpAnyZ_takeA (i := 5) (v := ?_) (opAt rfl) (by kernel_rfl) (by kernel_rfl) (by kernel_rfl) (by kernel_rfl) (fun _ _ _ h => h) (by assumption) (by rfl) (fun w hSw => ?_) ?_
  rotate_left
  · (try dsimp only at hSw); go_simp; (try with_reducible rfl)
  try simp only [Act.put, List.setIfInBounds_toArray, List.set_cons_zero, List.set_cons_succ]
  refine' wpAnyZ_takeA (i := 6) (v := ?_) (opAt rfl) (by kernel_rfl) (by kernel_rfl) (by kernel_rfl) (by kernel_rfl) (fun _ _ _ h => h) (by assumption) (by rfl) (fun w hSw => ?_) ?_
  rotate_left
  · (try dsimp only at hSw); go_simp; (try with_reducible rfl)
  try simp only [Act.put, List.setIfInBounds_toArray, List.set_cons_zero, List.set_cons_succ]
  refine' wpAnyZ_takeA (i := 7) (v := ?_) (opAt rfl) (by kernel_rfl) (by kernel_rfl) (by kernel_rfl) (by kernel_rfl) (fun _ _ _ h => h) (by assumption) (by rfl) (fun w hSw => ?_) ?_
  rotate_left
  · (try dsimp only at hSw); go_simp; (try with_reducible rfl)
  try simp only [Act.put, List.setIfInBounds_toArray, List.set_cons_zero, List.set_cons_succ]
  refine' wpAnyZ_takeA (i := 8) (v := ?_) (opAt rfl) (by kernel_rfl) (by kernel_rfl) (by kernel_rfl) (by kernel_rfl) (fun _ _ _ h => h) (by assumption) (by rfl) (fun w hSw => ?_) ?_
  rotate_left
  · (try dsimp only at hSw); go_simp; (try with_reducible rfl)
  try simp only [Act.put, List.setIfInBounds_toArray, List.set_cons_zero, List.set_cons_succ]
  refine' wpAnyZ_takeA (i := 9) (v := ?_) (opAt rfl) (by kernel_rfl) (by kernel_rfl) (by kernel_rfl) (by kernel_rfl) (fun _ _ _ h => h) (by assumption) (by rfl) (fun w hSw => ?_) ?_
  rotate_left
  · refine exec_load_pop hSw rfl (.tmp 18) ?_ ?_ <;> rfl
  try simp only [Act.put, List.setIfInBounds_toArray, List.set_cons_zero, List.set_cons_succ]
  refine wpAnyZ_ready (rs := [10]) (by kernel_rfl) (by simp) ?_
  refine AllReadyZ.cons (opAt rfl) (fun K hK => ?_) ?_
  · skip
    go_simp
    refine (WA.out _).mono ?_
    rintro e w4 ⟨rfl, hb4⟩
    replace hm := hm.below hb4 (Blk.lt hm)
    replace R := R.below hb4
    replace own := own.below hb4
    replace KP := KP.below hb4
    clear hb4
    try go_wp2_with fail
    refine hK.out _ _ (by exact (hm.range (a := [.bool true, .bool B0]) (m := [.int .i64 s, .int .i64 t, .int .i64 f, .int .i64 l, .int .i64 p, .int .i64 p1, .int .i64 p2, .int .u64 p3, .int .i64 p4, .int .i64 p5]) (b := [.int .i64 z1, .int .i64 z2, .int .i64 z3, .int .i64 z4, .int .i64 z5, .int .i64 u1, .int .i64 u2, .int .u64 u3, .int .i64 u4, .slice A n c]) (by simp [ho]))) (fun hHeld => ?_)
    clear hK K
    try simp only [Act.put, List.setIfInBounds_toArray, List.set_cons_zero, List.set_cons_succ]
    refine wpAnyZ_ready (rs := [11]) (by kernel_rfl) (by simp) ?_
    refine AllReadyZ.cons (opAt rfl) (fun K hK => ?_) ?_
    · skip
      go_simp
      refine (DO.out _ R).mono ?_
      rintro e w5 ⟨rfl, R5, hg5⟩
      have hgn := Blk.ne_ hm R (by decide)
      replace own := own.far hg5 (fun b hb e => by injection e with e; subst e; exact own.type R (by decide) hb)
      replace hm := hm.grown hg5 (fun e => by injection e with e; exact hgn e.symm)
      replace KP := KP.words hg5
      replace R := R5
      clear hg5 R5 hgn
      try go_wp2_with fail
      refine hK.out _ _ (by exact (hm.range (a := [.bool true, .bool B0]) (m := [.int .i64 s, .int .i64 t, .int .i64 f, .int .i64 l, .int .i64 p, .int .i64 p1, .int .i64 p2, .int .u64 p3, .int .i64 p4, .int .i64 p5]) (b := [.int .i64 z1, .int .i64 z2, .int .i64 z3, .int .i64 z4, .int .i64 z5, .int .i64 u1, .int .i64 u2, .int .u64 u3, .int .i64 u4, .slice A n c]) (by simp [ho]))) (fun hHeld => ?_)
      clear hK K
      try simp only [Act.put, List.setIfInBounds_toArray, List.set_cons_zero, List.set_cons_succ]
      refine wpAnyZ_ready (rs := [12]) (by kernel_rfl) (by simp) ?_
      refine AllReadyZ.cons (opAt rfl) (fun K hK => ?_) ?_
      · skip
        go_simp
        refine (TK.out _).mono ?_
        rintro e w6 ⟨rfl, hb4⟩
        replace hm := hm.below hb4 (Blk.lt hm)
        replace R := R.below hb4
        replace own := own.below hb4
        replace KP := KP.below hb4
        clear hb4
        try go_wp2_with fail
        refine hK.out _ _ (by exact (hm.range (a := [.bool true, .bool B0]) (m := [.int .i64 s, .int .i64 t, .int .i64 f, .int .i64 l, .int .i64 p, .int .i64 p1, .int .i64 p2, .int .u64 p3, .int .i64 p4, .int .i64 p5]) (b := [.int .i64 z1, .int .i64 z2, .int .i64 z3, .int .i64 z4, .int .i64 z5, .int .i64 u1, .int .i64 u2, .int .u64 u3, .int .i64 u4, .slice A n c]) (by simp [ho]))) (fun hHeld => ?_)
        clear hK K
        try simp only [Act.put, List.setIfInBounds_toArray, List.set_cons_zero, List.set_cons_succ]
        refine' wpAnyZ_takeA (i := 13) (v := ?_) (opAt rfl) (by kernel_rfl) (by kernel_rfl) (by kernel_rfl) (by kernel_rfl) (fun _ _ _ h => h) (by assumption) (by rfl) (fun w hSw => ?_) ?_
        rotate_left
        · (try dsimp only at hSw); go_simp; (try with_reducible rfl)
        try simp only [Act.put, List.setIfInBounds_toArray, List.set_cons_zero, List.set_cons_succ]
        refine' wpAnyZ_takeA (i := 14) (v := ?_) (opAt rfl) (by kernel_rfl) (by kernel_rfl) (by kernel_rfl) (by kernel_rfl) (fun _ _ _ h => h) (by assumption) (by rfl) (fun w hSw => ?_) ?_
        rotate_left
        · (try dsimp only at hSw); go_simp; (try with_reducible rfl)
        try simp only [Act.put, List.setIfInBounds_toArray, List.set_cons_zero, List.set_cons_succ]
        refine wpAnyZ_ready (rs := [15]) (by kernel_rfl) (by simp) ?_
        refine AllReadyZ.last (opAt rfl) (by kernel_rfl) (fun K hK => ?_) ?_
        · skip
          refine wp_store_mid 37 (.tmp 24) (.tmp 22) rfl g (o + 2) #[.int .i64 s, .int .i64 t, .int .i64 f, .int .i64 l, .int .i64 p, .int .i64 q1, .int .i64 q2, .int .u64 q3, .int .i64 q4, .int .i64 q5] (by rfl) (by rfl) (hm.there (a := [.bool true, .bool B0]) (m := [.int .i64 s, .int .i64 t, .int .i64 f, .int .i64 l, .int .i64 p, .int .i64 p1, .int .i64 p2, .int .u64 p3, .int .i64 p4, .int .i64 p5]) (b := [.int .i64 z1, .int .i64 z2, .int .i64 z3, .int .i64 z4, .int .i64 z5, .int .i64 u1, .int .i64 u2, .int .u64 u3, .int .i64 u4, .slice A n c]) (by simp [ho]) rfl) (by kernel_rfl) (by kernel_rfl) ?_
          refine hK.out _ _ ?_
          clear hK K
          try simp only [Act.put, List.setIfInBounds_toArray, List.set_cons_zero, List.set_cons_succ]
          refine wpAnyZ_done (by kernel_rfl) ?_ _
          generalize w6 = w7 at *
          have hgn : gW ≠ g := Ne.symm (Blk.ne_ hm R (by decide))
          have hne := own.type hm (by decide)
          have own5 := OwR.setsFar hne [.int .i64 s, .int .i64 t, .int .i64 f, .int .i64 l, .int .i64 p, .int .i64 q1, .int .i64 q2, .int .u64 q3, .int .i64 q4, .int .i64 q5] (o + 2) w7 own
          have R5 : RefOk (w7.setCells g (o + 2) [.int .i64 s, .int .i64 t, .int .i64 f, .int .i64 l, .int .i64 p, .int .i64 q1, .int .i64 q2, .int .u64 q3, .int .i64 q4, .int .i64 q5]) gW ws' := by rw [putL_eq]; exact Blk.offL hgn _ _ _ R
          have KP5 := KP.row (grown_sets g [.int .i64 s, .int .i64 t, .int .i64 f, .int .i64 l, .int .i64 p, .int .i64 q1, .int .i64 q2, .int .u64 q3, .int .i64 q4, .int .i64 q5] (o + 2) w7)
          have m5 : Mid (w7.setCells g (o + 2) [.int .i64 s, .int .i64 t, .int .i64 f, .int .i64 l, .int .i64 p, .int .i64 q1, .int .i64 q2, .int .u64 q3, .int .i64 q4, .int .i64 q5]) g 41 pre [.bool true, .bool B0, .int .i64 s, .int .i64 t, .int .i64 f, .int .i64 l, .int .i64 p, .int .i64 q1, .int .i64 q2, .int .u64 q3, .int .i64 q4, .int .i64 q5, .int .i64 z1, .int .i64 z2, .int .i64 z3, .int .i64 z4, .int .i64 z5, .int .i64 u1, .int .i64 u2, .int .u64 u3, .int .i64 u4, .slice A n c] post := hm.sets (a := [.bool true, .bool B0]) (m := [.int .i64 s, .int .i64 t, .int .i64 f, .int .i64 l, .int .i64 p, .int .i64 p1, .int .i64 p2, .int .u64 p3, .int .i64 p4, .int .i64 p5]) (b := [.int .i64 z1, .int .i64 z2, .int .i64 z3, .int .i64 z4, .int .i64 z5, .int .i64 u1, .int .i64 u2, .int .u64 u3, .int .i64 u4, .slice A n c]) (by simp [ho]) rfl
          clear hm own R KP
          generalize w7.setCells g (o + 2) [.int .i64 s, .int .i64 t, .int .i64 f, .int .i64 l, .int .i64 p, .int .i64 q1, .int .i64 q2, .int .u64 q3, .int .i64 q4, .int .i64 q5] = w8 at *
          replace hm := m5
          replace own := own5
          replace R := R5
          replace KP := KP5
          clear m5 own5 R5 KP5 c0 WA TK DO
          by_cases hq : q1 = 0
          · subst hq
            have HB := hide (show (!decide ((0 : Int) = 0)) = false by simp)
            by_cases h2 : 0 < q2
            · skip
              have HO := hide (show popOwn xs (0, q2, q3, q4, q5) = xs ++ [q2] by unfold popOwn; rw [if_pos ⟨rfl, h2⟩])
              have h2d : decide (0 < q2) = true := by simp [h2]
              have DN := hide (fun w2 => pdone_0 s t f l p q2 q3 q4 q5 w2)
              clear hn0
              go_wp2_with (first | (refine wpList_load_mid rfl 37 (.tmp 28) rfl g (o + 2) (by rfl) [.int .i64 s, .int .i64 t, .int .i64 f, .int .i64 l, .int .i64 p, .int .i64 0, .int .i64 q2, .int .u64 q3, .int .i64 q4, .int .i64 q5] _ (hm.range (a := [.bool true, .bool B0]) (m := [.int .i64 s, .int .i64 t, .int .i64 f, .int .i64 l, .int .i64 p, .int .i64 0, .int .i64 q2, .int .u64 q3, .int .i64 q4, .int .i64 q5]) (b := [.int .i64 z1, .int .i64 z2, .int .i64 z3, .int .i64 z4, .int .i64 z5, .int .i64 u1, .int .i64 u2, .int .u64 u3, .int .i64 u4, .slice A n c]) (by simp [ho])) Tryd.underlying37 rfl (by kernel_rfl) ?_))
              refine (DN.out _).mono ?_
              rintro e w9 ⟨rfl, hb4⟩
              replace hm := hm.below hb4 (Blk.lt hm)
              replace R := R.below hb4
              replace own := own.below hb4
              replace KP := KP.below hb4
              clear hb4 DN
              have c1 := hm.cell ho 1 (by simp)
              simp only [Nat.add_zero, List.getElem?_cons_zero, List.getElem?_cons_succ] at c1
              have c21 := hm.cell ho 21 (by simp)
              simp only [Nat.add_zero, List.getElem?_cons_zero, List.getElem?_cons_succ] at c21
              have fr := fun i => hm.frozen i
              go_wp2_with (at_builtin
                           refine wpList_append_owr rfl (.tmp 42) (.tmp 44) rfl (own.alloc (.cells #[.int .i64 q2] 3)) rfl q2 w9.heap.size rfl (Blk.new _ _ _) (by rw [World.size_alloc]; have := KP.size; omega) HN.out ?_
                           intro A3 c3 wa own3 hga hat
                           have B3 := (Below.refl w9.heap.size w9).alloc (Nat.le_refl _) (.cells #[.int .i64 q2] 3)
                           have hm3 := (hm.below B3 (Blk.lt hm)).grown hga hne
                           have R3 : RefOk wa gW ws' := Blk.grown (RefOk.below R B3) hga (fun e => own.type R (by decide) e.symm)
                           have KP3 := (KP.below B3).grown hga (fun b e _ => .inr (.inr e))
                           have hat3 : blkOf A3 = blkOf A ∨ ∃ b, blkOf A3 = some b ∧ w.heap.size ≤ b := hat.imp id (fun h => by obtain ⟨b, h1, h2⟩ := h; rw [World.size_alloc] at h2; exact ⟨b, h1, by have := KP.size; omega⟩)
                           clear hga hat B3 hm own R KP c1 c21 fr
                           have hneA := own3.type hm3 (by decide)
                           have c21 := hm3.cell ho 21 (by simp)
                           simp only [Nat.add_zero, List.getElem?_cons_zero, List.getElem?_cons_succ] at c21
                           have fr := fun i => hm3.frozen i
                           have m4 : Mid (wa.setCell ⟨g, o + 21, none⟩ (.slice A3 (n + 1) c3)) g 41 pre [.bool true, .bool B0, .int .i64 s, .int .i64 t, .int .i64 f, .int .i64 l, .int .i64 p, .int .i64 0, .int .i64 q2, .int .u64 q3, .int .i64 q4, .int .i64 q5, .int .i64 z1, .int .i64 z2, .int .i64 z3, .int .i64 z4, .int .i64 z5, .int .i64 u1, .int .i64 u2, .int .u64 u3, .int .i64 u4, .slice A3 (n + 1) c3] post := hm3.set1 (a := [.bool true, .bool B0, .int .i64 s, .int .i64 t, .int .i64 f, .int .i64 l, .int .i64 p, .int .i64 0, .int .i64 q2, .int .u64 q3, .int .i64 q4, .int .i64 q5, .int .i64 z1, .int .i64 z2, .int .i64 z3, .int .i64 z4, .int .i64 z5, .int .i64 u1, .int .i64 u2, .int .u64 u3, .int .i64 u4]) (x := .slice A n c) (b := []) (by simp [ho]) _
                           have c1 := m4.cell ho 1 (by simp)
                           simp only [Nat.add_zero, List.getElem?_cons_zero, List.getElem?_cons_succ] at c1
                           have fr4 := fun i => m4.frozen i)
              have m6 : Mid ((wa.setCell ⟨g, o + 21, none⟩ (.slice A3 (n + 1) c3)).setCell ⟨g, o + 1, none⟩ (.bool false)) g 41 pre [.bool true, .bool false, .int .i64 s, .int .i64 t, .int .i64 f, .int .i64 l, .int .i64 p, .int .i64 0, .int .i64 q2, .int .u64 q3, .int .i64 q4, .int .i64 q5, .int .i64 z1, .int .i64 z2, .int .i64 z3, .int .i64 z4, .int .i64 z5, .int .i64 u1, .int .i64 u2, .int .u64 u3, .int .i64 u4, .slice A3 (n + 1) c3] post := m4.set1 (a := [.bool true]) (x := .bool B0) (b := [.int .i64 s, .int .i64 t, .int .i64 f, .int .i64 l, .int .i64 p, .int .i64 0, .int .i64 q2, .int .u64 q3, .int .i64 q4, .int .i64 q5, .int .i64 z1, .int .i64 z2, .int .i64 z3, .int .i64 z4, .int .i64 z5, .int .i64 u1, .int .i64 u2, .int .u64 u3, .int .i64 u4, .slice A3 (n + 1) c3]) (by simp [ho]) _
              refine bodyPost_ret (v := .tuple #[]) (by simp [results, Tryd.results10, go_sem]) rfl ⟨rfl, A3, (n + 1), c3, ?_, ?_, ?_, (KP3.set1 (o + 21) (.slice A3 (n + 1) c3)).set1 (o + 1) (.bool false), hat3⟩
              · first | exact m6 | (rw [HB.out]; exact m6)
              · rw [HO.out]; exact (own3.setFar hneA (o + 21) (.slice A3 (n + 1) c3)).setFar hneA (o + 1) (.bool false)
              · exact Blk.far (p := ⟨g, o + 1, none⟩) (Blk.far (p := ⟨g, o + 21, none⟩) R3 hgn (.slice A3 (n + 1) c3)) hgn (.bool false)
            · skip
              have HO := hide (show popOwn xs (0, q2, q3, q4, q5) = xs by unfold popOwn; rw [if_neg (fun h => h2 h.2)])
              have h2d : decide (0 < q2) = false := by simp; omega
              have DN := hide (fun w2 => pdone_0 s t f l p q2 q3 q4 q5 w2)
              clear hn0
              go_wp2_with (first | (refine wpList_load_mid rfl 37 (.tmp 28) rfl g (o + 2) (by rfl) [.int .i64 s, .int .i64 t, .int .i64 f, .int .i64 l, .int .i64 p, .int .i64 0, .int .i64 q2, .int .u64 q3, .int .i64 q4, .int .i64 q5] _ (hm.range (a := [.bool true, .bool B0]) (m := [.int .i64 s, .int .i64 t, .int .i64 f, .int .i64 l, .int .i64 p, .int .i64 0, .int .i64 q2, .int .u64 q3, .int .i64 q4, .int .i64 q5]) (b := [.int .i64 z1, .int .i64 z2, .int .i64 z3, .int .i64 z4, .int .i64 z5, .int .i64 u1, .int .i64 u2, .int .u64 u3, .int .i64 u4, .slice A n c]) (by simp [ho])) Tryd.underlying37 rfl (by kernel_rfl) ?_))
              refine (DN.out _).mono ?_
              rintro e w9 ⟨rfl, hb4⟩
              replace hm := hm.below hb4 (Blk.lt hm)
              replace R := R.below hb4
              replace own := own.below hb4
              replace KP := KP.below hb4
              clear hb4 DN
              have c1 := hm.cell ho 1 (by simp)
              simp only [Nat.add_zero, List.getElem?_cons_zero, List.getElem?_cons_succ] at c1
              have c21 := hm.cell ho 21 (by simp)
              simp only [Nat.add_zero, List.getElem?_cons_zero, List.getElem?_cons_succ] at c21
              have fr := fun i => hm.frozen i
              go_wp2_with fail
              have m6 : Mid (w9.setCell ⟨g, o + 1, none⟩ (.bool false)) g 41 pre [.bool true, .bool false, .int .i64 s, .int .i64 t, .int .i64 f, .int .i64 l, .int .i64 p, .int .i64 0, .int .i64 q2, .int .u64 q3, .int .i64 q4, .int .i64 q5, .int .i64 z1, .int .i64 z2, .int .i64 z3, .int .i64 z4, .int .i64 z5, .int .i64 u1, .int .i64 u2, .int .u64 u3, .int .i64 u4, .slice A n c] post := hm.set1 (a := [.bool true]) (x := .bool B0) (b := [.int .i64 s, .int .i64 t, .int .i64 f, .int .i64 l, .int .i64 p, .int .i64 0, .int .i64 q2, .int .u64 q3, .int .i64 q4, .int .i64 q5, .int .i64 z1, .int .i64 z2, .int .i64 z3, .int .i64 z4, .int .i64 z5, .int .i64 u1, .int .i64 u2, .int .u64 u3, .int .i64 u4, .slice A n c]) (by simp [ho]) _
              refine bodyPost_ret (v := .tuple #[]) (by simp [results, Tryd.results10, go_sem]) rfl ⟨rfl, A, n, c, ?_, ?_, ?_, KP.set1 (o + 1) (.bool false), .inl rfl⟩
              · first | exact m6 | (rw [HB.out]; exact m6)
              · rw [HO.out]; exact own.setFar hne (o + 1) (.bool false)
              · exact Blk.far (p := ⟨g, o + 1, none⟩) R hgn (.bool false)
          · skip
            have HO := hide (show popOwn xs (q1, q2, q3, q4, q5) = xs by unfold popOwn; rw [if_neg (fun h => hq h.1)])
            have HB := hide (show (!decide (q1 = 0)) = true by simp [hq])
            have hq0 : (q1 == 0) = false := by simp [hq]
            have DN := hide (fun w2 => pdone_1 s t f l p q2 q3 q4 q5 q1 w2 hq0)
            clear hn0
            go_wp2_with (first | (refine wpList_load_mid rfl 37 (.tmp 28) rfl g (o + 2) (by rfl) [.int .i64 s, .int .i64 t, .int .i64 f, .int .i64 l, .int .i64 p, .int .i64 q1, .int .i64 q2, .int .u64 q3, .int .i64 q4, .int .i64 q5] _ (hm.range (a := [.bool true, .bool B0]) (m := [.int .i64 s, .int .i64 t, .int .i64 f, .int .i64 l, .int .i64 p, .int .i64 q1, .int .i64 q2, .int .u64 q3, .int .i64 q4, .int .i64 q5]) (b := [.int .i64 z1, .int .i64 z2, .int .i64 z3, .int .i64 z4, .int .i64 z5, .int .i64 u1, .int .i64 u2, .int .u64 u3, .int .i64 u4, .slice A n c]) (by simp [ho])) Tryd.underlying37 rfl (by kernel_rfl) ?_))
            refine (DN.out _).mono ?_
            rintro e w9 ⟨rfl, hb4⟩
            replace hm := hm.below hb4 (Blk.lt hm)
            replace R := R.below hb4
            replace own := own.below hb4
            replace KP := KP.below hb4
            clear hb4 DN
            have c1 := hm.cell ho 1 (by simp)
            simp only [Nat.add_zero, List.getElem?_cons_zero, List.getElem?_cons_succ] at c1
            have c21 := hm.cell ho 21 (by simp)
            simp only [Nat.add_zero, List.getElem?_cons_zero, List.getElem?_cons_succ] at c21
            have fr := fun i => hm.frozen i
            go_wp2_with fail
            have m6 : Mid (w9.setCell ⟨g, o + 1, none⟩ (.bool true)) g 41 pre [.bool true, .bool true, .int .i64 s, .int .i64 t, .int .i64 f, .int .i64 l, .int .i64 p, .int .i64 q1, .int .i64 q2, .int .u64 q3, .int .i64 q4, .int .i64 q5, .int .i64 z1, .int .i64 z2, .int .i64 z3, .int .i64 z4, .int .i64 z5, .int .i64 u1, .int .i64 u2, .int .u64 u3, .int .i64 u4, .slice A n c] post := hm.set1 (a := [.bool true]) (x := .bool B0) (b := [.int .i64 s, .int .i64 t, .int .i64 f, .int .i64 l, .int .i64 p, .int .i64 q1, .int .i64 q2, .int .u64 q3, .int .i64 q4, .int .i64 q5, .int .i64 z1, .int .i64 z2, .int .i64 z3, .int .i64 z4, .int .i64 z5, .int .i64 u1, .int .i64 u2, .int .u64 u3, .int .i64 u4, .slice A n c]) (by simp [ho]) _
            refine bodyPost_ret (v := .tuple #[]) (by simp [results, Tryd.results10, go_sem]) rfl ⟨rfl, A, n, c, ?_, ?_, ?_, KP.set1 (o + 1) (.bool true), .inl rfl⟩
            · first | exact m6 | (rw [HB.out]; exact m6)
            · rw [HO.out]; exact own.setFar hne (o + 1) (.bool true)
            · exact Blk.far (p := ⟨g, o + 1, none⟩) R hgn (.bool true)

        exact AllReadyZ.nil
      exact AllReadyZ.nil
    exact AllReadyZ.nil
  exact AllReadyZ.nil
set_option linter.unusedSimpArgs false in
set_option maxRecDepth 100000 in
set_option maxHeartbeats 2000000 in
theorem step_push (s t f l p : Int) (B0 : Bool) (y : LT) (px : PxT) (ux : UxT) (A : Option Addr) (n c lo g o gW cW : Nat) (pre post : List Value) (x0 : Int) (xs ws : List Int) (w : World)
    (hm : Mid w g 41 pre (wkL false B0 y px (s, t, f, l, p) ux A (n + 1) c) post) (ho : pre.length = o) (own : OwR w lo A (n + 1) c (x0 :: xs)) (R : RefOk w gW ws) (hs : 1 ≤ s ∧ s ≤ 1000) (ht : 1 ≤ t ∧ t ≤ 64) (hf : 4 ≤ f ∧ f ≤ 64) (hx : PsIn s ux)
    (a : Int) (ws' : List Int) (ha : mDo ws (psAsk t f ux).1 (psAsk t f ux).2.1 (psAsk t f ux).2.2.1 (psAsk t f ux).2.2.2 = (a, ws')) :
    Calls Tryd.prog 10 #[.pointer (some ⟨g, o, none⟩), .slice (some ⟨gW, 0, none⟩) ws.length cW] w fun e w' => e = .returned (.tuple #[]) ∧
      ∃ A' n' c', Mid w' g 41 pre (wkL false (if (psTook ux a).1 = 0 then false else B0) y px (s, t, f, l, p) (psTook ux a) A' n' c') post ∧ OwR w' lo A' n' c' (if (psTook ux a).1 = 0 then xs else x0 :: xs) ∧ RefOk w' gW ws' ∧ Kept w w' g gW A ∧ (blkOf A' = blkOf A ∨ ∃ b, blkOf A' = some b ∧ w.heap.size ≤ b) := by
  have WA := hide (fun w2 => pswant_any s t f l p ux w2 hx (.inr ⟨hs, ht, hf⟩))
  have TK := hide (fun w2 => pstook_any s t f l p a ux w2 hx.1)
  have DO := hide (fun w2 (h : RefOk w2 gW ws) => rdo_any gW cW (psAsk t f ux).1 (psAsk t f ux).2.1 (psAsk t f ux).2.2.1 (psAsk t f ux).2.2.2 ws w2 h)
  rw [ha] at DO
  simp only [psV] at WA TK
  clear hx hs ht hf ha
  generalize psAsk t f ux = ak at *
  generalize psTook ux a = x2 at *
  obtain ⟨k1, k2, k3, k4⟩ := ak
  obtain ⟨q1, q2, q3, q4⟩ := x2
  obtain ⟨p1, p2, p3, p4, p5⟩ := px
  obtain ⟨y1, y2, y3, y4, y5⟩ := y
  obtain ⟨u1, u2, u3, u4⟩ := ux
  obtain ⟨b, off, rfl⟩ := own.some_ (by omega)
  simp only [wkL] at hm WA TK DO ⊢
  have KP := Kept.refl w g gW (some ⟨b, off, none⟩)
  have c0 := hm.cell ho 0 (by simp)
  simp only [Nat.add_zero, List.getElem?_cons_zero, List.getElem?_cons_succ] at c0
  go_enter Tryd.func10, Tryd.ntmps10
  go_wp2_with fail
  refine wp_region_heldZ [15] (fun w' => w'.rangeAt g (o + 12) [.int .i64 s, .int .i64 t, .int .i64 f, .int .i64 l, .int .i64 p, .int .i64 u1, .int .i64 u2, .int .u64 u3, .int .i64 u4]) (by kernel_rfl) (by exact (hm.range (a := [.bool false, .bool B0, .int .i64 y1, .int .i64 y2, .int .i64 y3, .int .i64 y4, .int .i64 y5, .int .i64 p1, .int .i64 p2, .int .u64 p3, .int .i64 p4, .int .i64 p5]) (m := [.int .i64 s, .int .i64 t, .int .i64 f, .int .i64 l, .int .i64 p, .int .i64 u1, .int .i64 u2, .int .u64 u3, .int .i64 u4]) (b := [.slice (some ⟨b, off, none⟩) (n + 1) c]) (by simp [ho]))) (fun hHeld => ?_)
  replace hm := Mid.drew hm
  replace R := (show RefOk w.drew gW ws from Blk.drew R)
  replace own := own.drew
  replace KP := KP.below (Below.refl _ _).drew
  generalize w.drew = wd at *
  refine' wpAnyZ_takeA (i := 0) (v := ?_) (opAt rfl) (by kernel_rfl) (by kernel_rfl) (by kernel_rfl) (by kernel_rfl) (fun _ _ _ h => h) (by assumption) (by rfl) (fun w hSw => ?_) ?_
  rotate_left
  · (try dsimp only at hSw); go_simp; (try with_reducible rfl)
  try simp only [Act.put, List.setIfInBounds_toArray, List.set_cons_zero, List.set_cons_succ]
  refine' wpAnyZ_takeA (i := 1) (v := ?_) (opAt rfl) (by kernel_rfl) (by kernel_rfl) (by kernel_rfl) (by kernel_rfl) (fun _ _ _ h => h) (by assumption) (by rfl) (fun w hSw => ?_) ?_
  rotate_left
  · (try dsimp only at hSw); go_simp; (try with_reducible rfl)
  try simp only [Act.put, List.setIfInBounds_toArray, List.set_cons_zero, List.set_cons_succ]
  refine' wpAnyZ_takeA (i := 2) (v := ?_) (opAt rfl) (by kernel_rfl) (by kernel_rfl) (by kernel_rfl) (by kernel_rfl) (fun _ _ _ h => h) (by assumption) (by rfl) (fun w hSw => ?_) ?_
  rotate_left
  · (try dsimp only at hSw); go_simp; (try with_reducible rfl)
  try simp only [Act.put, List.setIfInBounds_toArray, List.set_cons_zero, List.set_cons_succ]
  refine' wpAnyZ_takeA (i := 3) (v := ?_) (opAt rfl) (by kernel_rfl) (by kernel_rfl) (by kernel_rfl) (by kernel_rfl) (fun _ _ _ h => h) (by assumption) (by rfl) (fun w hSw => ?_) ?_
  rotate_left
  · (try dsimp only at hSw); go_simp; (try with_reducible rfl)
  try simp only [Act.put, List.setIfInBounds_toArray, List.set_cons_zero, List.set_cons_succ]
  refine' wpAnyZ_takeA (i := 4) (v := ?_) (opAt rfl) (by kernel_rfl) (by kernel_rfl) (by kernel_rfl) (by kernel_rfl) (fun _ _ _ h => h) (by assumption) (by rfl) (fun w hSw => ?_) ?_
  rotate_left
  · refine exec_load_push hSw rfl (.tmp 56) ?_ ?_ <;> rfl
  try simp only [Act.put, List.setIfInBounds_toArray, List.set_cons_zero, List.set_cons_succ]
  refine' wpAnyZ_takeA (i := 5) (v := ?_) (opAt rfl) (by kernel_rfl) (by kernel_rfl) (by kernel_rfl) (by kernel_rfl) (fun _ _ _ h => h) (by assumption) (by rfl) (fun w hSw => ?_) ?_
  rotate_left
  · (try dsimp only at hSw); go_simp; (try with_reducible rfl)
  try simp only [Act.put, List.setIfInBounds_toArray, List.set_cons_zero, List.set_cons_succ]
  refine' wpAnyZ_takeA (i := 6) (v := ?_) (opAt rfl) (by kernel_rfl) (by kernel_rfl) (by kernel_rfl) (by kernel_rfl) (fun _ _ _ h => h) (by assumption) (by rfl) (fun w hSw => ?_) ?_
  rotate_left
  · (try dsimp only at hSw); go_simp; (try with_reducible rfl)
  try simp only [Act.put, List.setIfInBounds_toArray, List.set_cons_zero, List.set_cons_succ]
  refine' wpAnyZ_takeA (i := 7) (v := ?_) (opAt rfl) (by kernel_rfl) (by kernel_rfl) (by kernel_rfl) (by kernel_rfl) (fun _ _ _ h => h) (by assumption) (by rfl) (fun w hSw => ?_) ?_
  rotate_left
  · (try dsimp only at hSw); go_simp; (try with_reducible rfl)
  try simp only [Act.put, List.setIfInBounds_toArray, List.set_cons_zero, List.set_cons_succ]
  refine' wpAnyZ_takeA (i := 8) (v := ?_) (opAt rfl) (by kernel_rfl) (by kernel_rfl) (by kernel_rfl) (by kernel_rfl) (fun _ _ _ h => h) (by assumption) (by rfl) (fun w hSw => ?_) ?_
  rotate_left
  · (try dsimp only at hSw); go_simp; (try with_reducible rfl)
  try simp only [Act.put, List.setIfInBounds_toArray, List.set_cons_zero, List.set_cons_succ]
  refine' wpAnyZ_takeA (i := 9) (v := ?_) (opAt rfl) (by kernel_rfl) (by kernel_rfl) (by kernel_rfl) (by kernel_rfl) (fun _ _ _ h => h) (by assumption) (by rfl) (fun w hSw => ?_) ?_
  rotate_left
  · refine exec_load_push hSw rfl (.tmp 61) ?_ ?_ <;> rfl
  try simp only [Act.put, List.setIfInBounds_toArray, List.set_cons_zero, List.set_cons_succ]
  refine wpAnyZ_ready (rs := [10]) (by kernel_rfl) (by simp) ?_
  refine AllReadyZ.cons (opAt rfl) (fun K hK => ?_) ?_
  · skip
    go_simp
    refine (WA.out _).mono ?_
    rintro e w4 ⟨rfl, hb4⟩
    replace hm := hm.below hb4 (Blk.lt hm)
    replace R := R.below hb4
    replace own := own.below hb4
    replace KP := KP.below hb4
    clear hb4
    try go_wp2_with fail
    refine hK.out _ _ (by exact (hm.range (a := [.bool false, .bool B0, .int .i64 y1, .int .i64 y2, .int .i64 y3, .int .i64 y4, .int .i64 y5, .int .i64 p1, .int .i64 p2, .int .u64 p3, .int .i64 p4, .int .i64 p5]) (m := [.int .i64 s, .int .i64 t, .int .i64 f, .int .i64 l, .int .i64 p, .int .i64 u1, .int .i64 u2, .int .u64 u3, .int .i64 u4]) (b := [.slice (some ⟨b, off, none⟩) (n + 1) c]) (by simp [ho]))) (fun hHeld => ?_)
    clear hK K
    try simp only [Act.put, List.setIfInBounds_toArray, List.set_cons_zero, List.set_cons_succ]
    refine wpAnyZ_ready (rs := [11]) (by kernel_rfl) (by simp) ?_
    refine AllReadyZ.cons (opAt rfl) (fun K hK => ?_) ?_
    · skip
      go_simp
      refine (DO.out _ R).mono ?_
      rintro e w5 ⟨rfl, R5, hg5⟩
      have hgn := Blk.ne_ hm R (by decide)
      replace own := own.far hg5 (fun b hb e => by injection e with e; subst e; exact own.type R (by decide) hb)
      replace hm := hm.grown hg5 (fun e => by injection e with e; exact hgn e.symm)
      replace KP := KP.words hg5
      replace R := R5
      clear hg5 R5 hgn
      try go_wp2_with fail
      refine hK.out _ _ (by exact (hm.range (a := [.bool false, .bool B0, .int .i64 y1, .int .i64 y2, .int .i64 y3, .int .i64 y4, .int .i64 y5, .int .i64 p1, .int .i64 p2, .int .u64 p3, .int .i64 p4, .int .i64 p5]) (m := [.int .i64 s, .int .i64 t, .int .i64 f, .int .i64 l, .int .i64 p, .int .i64 u1, .int .i64 u2, .int .u64 u3, .int .i64 u4]) (b := [.slice (some ⟨b, off, none⟩) (n + 1) c]) (by simp [ho]))) (fun hHeld => ?_)
      clear hK K
      try simp only [Act.put, List.setIfInBounds_toArray, List.set_cons_zero, List.set_cons_succ]
      refine wpAnyZ_ready (rs := [12]) (by kernel_rfl) (by simp) ?_
      refine AllReadyZ.cons (opAt rfl) (fun K hK => ?_) ?_
      · skip
        go_simp
        refine (TK.out _).mono ?_
        rintro e w6 ⟨rfl, hb4⟩
        replace hm := hm.below hb4 (Blk.lt hm)
        replace R := R.below hb4
        replace own := own.below hb4
        replace KP := KP.below hb4
        clear hb4
        try go_wp2_with fail
        refine hK.out _ _ (by exact (hm.range (a := [.bool false, .bool B0, .int .i64 y1, .int .i64 y2, .int .i64 y3, .int .i64 y4, .int .i64 y5, .int .i64 p1, .int .i64 p2, .int .u64 p3, .int .i64 p4, .int .i64 p5]) (m := [.int .i64 s, .int .i64 t, .int .i64 f, .int .i64 l, .int .i64 p, .int .i64 u1, .int .i64 u2, .int .u64 u3, .int .i64 u4]) (b := [.slice (some ⟨b, off, none⟩) (n + 1) c]) (by simp [ho]))) (fun hHeld => ?_)
        clear hK K
        try simp only [Act.put, List.setIfInBounds_toArray, List.set_cons_zero, List.set_cons_succ]
        refine' wpAnyZ_takeA (i := 13) (v := ?_) (opAt rfl) (by kernel_rfl) (by kernel_rfl) (by kernel_rfl) (by kernel_rfl) (fun _ _ _ h => h) (by assumption) (by rfl) (fun w hSw => ?_) ?_
        rotate_left
        · (try dsimp only at hSw); go_simp; (try with_reducible rfl)
        try simp only [Act.put, List.setIfInBounds_toArray, List.set_cons_zero, List.set_cons_succ]
        refine' wpAnyZ_takeA (i := 14) (v := ?_) (opAt rfl) (by kernel_rfl) (by kernel_rfl) (by kernel_rfl) (by kernel_rfl) (fun _ _ _ h => h) (by assumption) (by rfl) (fun w hSw => ?_) ?_
        rotate_left
        · (try dsimp only at hSw); go_simp; (try with_reducible rfl)
        try simp only [Act.put, List.setIfInBounds_toArray, List.set_cons_zero, List.set_cons_succ]
        refine wpAnyZ_ready (rs := [15]) (by kernel_rfl) (by simp) ?_
        refine AllReadyZ.last (opAt rfl) (by kernel_rfl) (fun K hK => ?_) ?_
        · skip
          refine wp_store_mid 39 (.tmp 67) (.tmp 65) rfl g (o + 12) #[.int .i64 s, .int .i64 t, .int .i64 f, .int .i64 l, .int .i64 p, .int .i64 q1, .int .i64 q2, .int .u64 q3, .int .i64 q4] (by rfl) (by rfl) (hm.there (a := [.bool false, .bool B0, .int .i64 y1, .int .i64 y2, .int .i64 y3, .int .i64 y4, .int .i64 y5, .int .i64 p1, .int .i64 p2, .int .u64 p3, .int .i64 p4, .int .i64 p5]) (m := [.int .i64 s, .int .i64 t, .int .i64 f, .int .i64 l, .int .i64 p, .int .i64 u1, .int .i64 u2, .int .u64 u3, .int .i64 u4]) (b := [.slice (some ⟨b, off, none⟩) (n + 1) c]) (by simp [ho]) rfl) (by kernel_rfl) (by kernel_rfl) ?_
          refine hK.out _ _ ?_
          clear hK K
          try simp only [Act.put, List.setIfInBounds_toArray, List.set_cons_zero, List.set_cons_succ]
          refine wpAnyZ_done (by kernel_rfl) ?_ _
          generalize w6 = w7 at *
          have hgn : gW ≠ g := Ne.symm (Blk.ne_ hm R (by decide))
          have hne := own.type hm (by decide)
          have own5 := OwR.setsFar hne [.int .i64 s, .int .i64 t, .int .i64 f, .int .i64 l, .int .i64 p, .int .i64 q1, .int .i64 q2, .int .u64 q3, .int .i64 q4] (o + 12) w7 own
          have R5 : RefOk (w7.setCells g (o + 12) [.int .i64 s, .int .i64 t, .int .i64 f, .int .i64 l, .int .i64 p, .int .i64 q1, .int .i64 q2, .int .u64 q3, .int .i64 q4]) gW ws' := by rw [putL_eq]; exact Blk.offL hgn _ _ _ R
          have KP5 := KP.row (grown_sets g [.int .i64 s, .int .i64 t, .int .i64 f, .int .i64 l, .int .i64 p, .int .i64 q1, .int .i64 q2, .int .u64 q3, .int .i64 q4] (o + 12) w7)
          have m5 : Mid (w7.setCells g (o + 12) [.int .i64 s, .int .i64 t, .int .i64 f, .int .i64 l, .int .i64 p, .int .i64 q1, .int .i64 q2, .int .u64 q3, .int .i64 q4]) g 41 pre [.bool false, .bool B0, .int .i64 y1, .int .i64 y2, .int .i64 y3, .int .i64 y4, .int .i64 y5, .int .i64 p1, .int .i64 p2, .int .u64 p3, .int .i64 p4, .int .i64 p5, .int .i64 s, .int .i64 t, .int .i64 f, .int .i64 l, .int .i64 p, .int .i64 q1, .int .i64 q2, .int .u64 q3, .int .i64 q4, .slice (some ⟨b, off, none⟩) (n + 1) c] post := hm.sets (a := [.bool false, .bool B0, .int .i64 y1, .int .i64 y2, .int .i64 y3, .int .i64 y4, .int .i64 y5, .int .i64 p1, .int .i64 p2, .int .u64 p3, .int .i64 p4, .int .i64 p5]) (m := [.int .i64 s, .int .i64 t, .int .i64 f, .int .i64 l, .int .i64 p, .int .i64 u1, .int .i64 u2, .int .u64 u3, .int .i64 u4]) (b := [.slice (some ⟨b, off, none⟩) (n + 1) c]) (by simp [ho]) rfl
          clear hm own R KP
          generalize w7.setCells g (o + 12) [.int .i64 s, .int .i64 t, .int .i64 f, .int .i64 l, .int .i64 p, .int .i64 q1, .int .i64 q2, .int .u64 q3, .int .i64 q4] = w8 at *
          replace hm := m5
          replace own := own5
          replace R := R5
          replace KP := KP5
          clear m5 own5 R5 KP5 c0 WA TK DO
          by_cases hq : q1 = 0
          · subst hq
            have HR9 := hide (show w8.rangeAt g (o + 12) [.int .i64 s, .int .i64 t, .int .i64 f, .int .i64 l, .int .i64 p, .int .i64 0, .int .i64 q2, .int .u64 q3, .int .i64 q4] from (hm.range (a := [.bool false, .bool B0, .int .i64 y1, .int .i64 y2, .int .i64 y3, .int .i64 y4, .int .i64 y5, .int .i64 p1, .int .i64 p2, .int .u64 p3, .int .i64 p4, .int .i64 p5]) (m := [.int .i64 s, .int .i64 t, .int .i64 f, .int .i64 l, .int .i64 p, .int .i64 0, .int .i64 q2, .int .u64 q3, .int .i64 q4]) (b := [.slice (some ⟨b, off, none⟩) (n + 1) c]) (by simp [ho])))
            have DN := hide (fun w2 => psdone_0 s t f l p q2 q3 q4 w2)
            go_wp2_with (first | (refine wpList_load_mid rfl 39 (.tmp 70) rfl g (o + 12) (by rfl) [.int .i64 s, .int .i64 t, .int .i64 f, .int .i64 l, .int .i64 p, .int .i64 0, .int .i64 q2, .int .u64 q3, .int .i64 q4] _ HR9.out Tryd.underlying39 rfl (by kernel_rfl) ?_))
            refine (DN.out _).mono ?_
            rintro e w9 ⟨rfl, hb4⟩
            replace hm := hm.below hb4 (Blk.lt hm)
            replace R := R.below hb4
            replace own := own.below hb4
            replace KP := KP.below hb4
            clear hb4 DN
            have c21 := hm.cell ho 21 (by simp)
            simp only [Nat.add_zero, List.getElem?_cons_zero, List.getElem?_cons_succ] at c21
            have fr := fun i => hm.frozen i
            have m4 : Mid (w9.setCell ⟨g, o + 21, none⟩ (.slice (if c = 1 then some ⟨b, off, none⟩ else some ⟨b, off + 1, none⟩) n (c - 1))) g 41 pre [.bool false, .bool B0, .int .i64 y1, .int .i64 y2, .int .i64 y3, .int .i64 y4, .int .i64 y5, .int .i64 p1, .int .i64 p2, .int .u64 p3, .int .i64 p4, .int .i64 p5, .int .i64 s, .int .i64 t, .int .i64 f, .int .i64 l, .int .i64 p, .int .i64 0, .int .i64 q2, .int .u64 q3, .int .i64 q4, .slice (if c = 1 then some ⟨b, off, none⟩ else some ⟨b, off + 1, none⟩) n (c - 1)] post := hm.set1 (a := [.bool false, .bool B0, .int .i64 y1, .int .i64 y2, .int .i64 y3, .int .i64 y4, .int .i64 y5, .int .i64 p1, .int .i64 p2, .int .u64 p3, .int .i64 p4, .int .i64 p5, .int .i64 s, .int .i64 t, .int .i64 f, .int .i64 l, .int .i64 p, .int .i64 0, .int .i64 q2, .int .u64 q3, .int .i64 q4]) (x := .slice (some ⟨b, off, none⟩) (n + 1) c) (b := []) (by simp [ho]) _
            have c1 := m4.cell ho 1 (by simp)
            simp only [Nat.add_zero, List.getElem?_cons_zero, List.getElem?_cons_succ] at c1
            have fr4 := fun i => m4.frozen i
            have own5 := own.cut
            simp only [Option.map_some, Addr.add_mid] at own5
            go_wp2_with fail
            · skip
              have h9 : c = 1 := by assumption
              rw [if_pos h9, h9] at own5
              have hneC := own5.type hm (by decide)
              have m7 : Mid (w9.setCell ⟨g, o + 21, none⟩ (.slice (some ⟨b, off, none⟩) n 0)) g 41 pre [.bool false, .bool B0, .int .i64 y1, .int .i64 y2, .int .i64 y3, .int .i64 y4, .int .i64 y5, .int .i64 p1, .int .i64 p2, .int .u64 p3, .int .i64 p4, .int .i64 p5, .int .i64 s, .int .i64 t, .int .i64 f, .int .i64 l, .int .i64 p, .int .i64 0, .int .i64 q2, .int .u64 q3, .int .i64 q4, .slice (some ⟨b, off, none⟩) n 0] post := hm.set1 (a := [.bool false, .bool B0, .int .i64 y1, .int .i64 y2, .int .i64 y3, .int .i64 y4, .int .i64 y5, .int .i64 p1, .int .i64 p2, .int .u64 p3, .int .i64 p4, .int .i64 p5, .int .i64 s, .int .i64 t, .int .i64 f, .int .i64 l, .int .i64 p, .int .i64 0, .int .i64 q2, .int .u64 q3, .int .i64 q4]) (x := .slice (some ⟨b, off, none⟩) (n + 1) c) (b := []) (by simp [ho]) _
              have m6 : Mid ((w9.setCell ⟨g, o + 21, none⟩ (.slice (some ⟨b, off, none⟩) n 0)).setCell ⟨g, o + 1, none⟩ (.bool false)) g 41 pre [.bool false, .bool false, .int .i64 y1, .int .i64 y2, .int .i64 y3, .int .i64 y4, .int .i64 y5, .int .i64 p1, .int .i64 p2, .int .u64 p3, .int .i64 p4, .int .i64 p5, .int .i64 s, .int .i64 t, .int .i64 f, .int .i64 l, .int .i64 p, .int .i64 0, .int .i64 q2, .int .u64 q3, .int .i64 q4, .slice (some ⟨b, off, none⟩) n 0] post := m7.set1 (a := [.bool false]) (x := .bool B0) (b := [.int .i64 y1, .int .i64 y2, .int .i64 y3, .int .i64 y4, .int .i64 y5, .int .i64 p1, .int .i64 p2, .int .u64 p3, .int .i64 p4, .int .i64 p5, .int .i64 s, .int .i64 t, .int .i64 f, .int .i64 l, .int .i64 p, .int .i64 0, .int .i64 q2, .int .u64 q3, .int .i64 q4, .slice (some ⟨b, off, none⟩) n 0]) (by simp [ho]) _
              refine Great.bodyPost_end0 (by kernel_rfl) rfl ⟨rfl, (some ⟨b, off, none⟩), n, 0, ?_, ?_, ?_, ?_, .inl rfl⟩
              · first | exact m6 | (rw [if_pos rfl]; exact m6)
              · first | exact (own5.setFar hneC (o + 21) (.slice (some ⟨b, off, none⟩) n 0)).setFar hneC (o + 1) (.bool false) | (rw [if_pos rfl]; exact (own5.setFar hneC (o + 21) (.slice (some ⟨b, off, none⟩) n 0)).setFar hneC (o + 1) (.bool false))
              · exact Blk.far (p := ⟨g, o + 1, none⟩) (Blk.far (p := ⟨g, o + 21, none⟩) R hgn _) hgn (.bool false)
              · exact (KP.set1 (o + 21) (.slice (some ⟨b, off, none⟩) n 0)).set1 (o + 1) (.bool false)
            · skip
              have h9 : ¬ c = 1 := by assumption
              rw [if_neg h9] at own5
              have hneC := own5.type hm (by decide)
              have m7 : Mid (w9.setCell ⟨g, o + 21, none⟩ (.slice (some ⟨b, off + 1, none⟩) n (c - 1))) g 41 pre [.bool false, .bool B0, .int .i64 y1, .int .i64 y2, .int .i64 y3, .int .i64 y4, .int .i64 y5, .int .i64 p1, .int .i64 p2, .int .u64 p3, .int .i64 p4, .int .i64 p5, .int .i64 s, .int .i64 t, .int .i64 f, .int .i64 l, .int .i64 p, .int .i64 0, .int .i64 q2, .int .u64 q3, .int .i64 q4, .slice (some ⟨b, off + 1, none⟩) n (c - 1)] post := hm.set1 (a := [.bool false, .bool B0, .int .i64 y1, .int .i64 y2, .int .i64 y3, .int .i64 y4, .int .i64 y5, .int .i64 p1, .int .i64 p2, .int .u64 p3, .int .i64 p4, .int .i64 p5, .int .i64 s, .int .i64 t, .int .i64 f, .int .i64 l, .int .i64 p, .int .i64 0, .int .i64 q2, .int .u64 q3, .int .i64 q4]) (x := .slice (some ⟨b, off, none⟩) (n + 1) c) (b := []) (by simp [ho]) _
              have m6 : Mid ((w9.setCell ⟨g, o + 21, none⟩ (.slice (some ⟨b, off + 1, none⟩) n (c - 1))).setCell ⟨g, o + 1, none⟩ (.bool false)) g 41 pre [.bool false, .bool false, .int .i64 y1, .int .i64 y2, .int .i64 y3, .int .i64 y4, .int .i64 y5, .int .i64 p1, .int .i64 p2, .int .u64 p3, .int .i64 p4, .int .i64 p5, .int .i64 s, .int .i64 t, .int .i64 f, .int .i64 l, .int .i64 p, .int .i64 0, .int .i64 q2, .int .u64 q3, .int .i64 q4, .slice (some ⟨b, off + 1, none⟩) n (c - 1)] post := m7.set1 (a := [.bool false]) (x := .bool B0) (b := [.int .i64 y1, .int .i64 y2, .int .i64 y3, .int .i64 y4, .int .i64 y5, .int .i64 p1, .int .i64 p2, .int .u64 p3, .int .i64 p4, .int .i64 p5, .int .i64 s, .int .i64 t, .int .i64 f, .int .i64 l, .int .i64 p, .int .i64 0, .int .i64 q2, .int .u64 q3, .int .i64 q4, .slice (some ⟨b, off + 1, none⟩) n (c - 1)]) (by simp [ho]) _
              refine Great.bodyPost_end0 (by kernel_rfl) rfl ⟨rfl, (some ⟨b, off + 1, none⟩), n, (c - 1), ?_, ?_, ?_, ?_, .inl rfl⟩
              · first | exact m6 | (rw [if_pos rfl]; exact m6)
              · first | exact (own5.setFar hneC (o + 21) (.slice (some ⟨b, off + 1, none⟩) n (c - 1))).setFar hneC (o + 1) (.bool false) | (rw [if_pos rfl]; exact (own5.setFar hneC (o + 21) (.slice (some ⟨b, off + 1, none⟩) n (c - 1))).setFar hneC (o + 1) (.bool false))
              · exact Blk.far (p := ⟨g, o + 1, none⟩) (Blk.far (p := ⟨g, o + 21, none⟩) R hgn _) hgn (.bool false)
              · exact (KP.set1 (o + 21) (.slice (some ⟨b, off + 1, none⟩) n (c - 1))).set1 (o + 1) (.bool false)
          · skip
            have hq0 : (q1 == 0) = false := by simp [hq]
            have HR9 := hide (show w8.rangeAt g (o + 12) [.int .i64 s, .int .i64 t, .int .i64 f, .int .i64 l, .int .i64 p, .int .i64 q1, .int .i64 q2, .int .u64 q3, .int .i64 q4] from (hm.range (a := [.bool false, .bool B0, .int .i64 y1, .int .i64 y2, .int .i64 y3, .int .i64 y4, .int .i64 y5, .int .i64 p1, .int .i64 p2, .int .u64 p3, .int .i64 p4, .int .i64 p5]) (m := [.int .i64 s, .int .i64 t, .int .i64 f, .int .i64 l, .int .i64 p, .int .i64 q1, .int .i64 q2, .int .u64 q3, .int .i64 q4]) (b := [.slice (some ⟨b, off, none⟩) (n + 1) c]) (by simp [ho])))
            have DN := hide (fun w2 => psdone_1 s t f l p q2 q3 q4 q1 w2 hq0)
            go_wp2_with (first | (refine wpList_load_mid rfl 39 (.tmp 70) rfl g (o + 12) (by rfl) [.int .i64 s, .int .i64 t, .int .i64 f, .int .i64 l, .int .i64 p, .int .i64 q1, .int .i64 q2, .int .u64 q3, .int .i64 q4] _ HR9.out Tryd.underlying39 rfl (by kernel_rfl) ?_))
            refine (DN.out _).mono ?_
            rintro e w9 ⟨rfl, hb4⟩
            replace hm := hm.below hb4 (Blk.lt hm)
            replace R := R.below hb4
            replace own := own.below hb4
            replace KP := KP.below hb4
            clear hb4 DN
            go_wp2_with fail
            refine Great.bodyPost_end0 (by kernel_rfl) rfl ⟨rfl, some ⟨b, off, none⟩, n + 1, c, ?_, ?_, R, KP, .inl rfl⟩
            · first | exact hm | (rw [if_neg hq]; exact hm)
            · first | exact own | (rw [if_neg hq]; exact own)

        exact AllReadyZ.nil
      exact AllReadyZ.nil
    exact AllReadyZ.nil
  exact AllReadyZ.nil
end Go.Proofs.YteiidfklepjpmaaDoor

/-
  The four workers of StackParts, and what begin and step do to them.
-/
namespace Go.Proofs.YteiidfklepjpmaaDoor
open Go.RowKit
attribute [local go_sem] past_cell past_cell_add

def RowOf (w : World) (lo : Nat) (y0 : LT) (x : Wk) (m : List Value) (A : Option Addr) : Prop :=
  ∃ y z c, m = wkL x.pops x.busy y x.px z x.ux A x.own.length c ∧ OwR w lo A x.own.length c x.own ∧ (x.busy = true → (x.pops = true → y = y0) ∧ (x.pops = false → z = y0))
def upd {α : Type} (f : Nat → α) (q : Nat) (v : α) (k : Nat) : α := if k = q then v else f k
theorem upd_same {α : Type} (f : Nat → α) (q : Nat) (v : α) : upd f q v q = v := by simp [upd]
theorem upd_ne {α : Type} (f : Nat → α) {q k : Nat} (v : α) (h : k ≠ q) : upd f q v k = f k := by simp [upd, h]
theorem upd_self {α : Type} (f : Nat → α) (q : Nat) : upd f q (f q) = f := by
  funext k
  unfold upd
  split
  · next h => rw [h]
  · rfl
def fl4 (M : Nat → List Value) : List Value := M 0 ++ (M 1 ++ (M 2 ++ M 3))
theorem fl4_mid (M : Nat → List Value) (hM : ∀ q, q < 4 → (M q).length = 22) (q : Nat) (hq : q < 4) : ∃ pre post, pre.length = q * 22 ∧ ∀ m, fl4 (upd M q m) = pre ++ (m ++ post) := by
  have h0 := hM 0 (by omega)
  have h1 := hM 1 (by omega)
  have h2 := hM 2 (by omega)
  obtain rfl | rfl | rfl | rfl : q = 0 ∨ q = 1 ∨ q = 2 ∨ q = 3 := by omega
  · exact ⟨[], M 1 ++ (M 2 ++ M 3), rfl, fun m => by simp [fl4, upd]⟩
  · exact ⟨M 0, M 2 ++ M 3, by omega, fun m => by simp [fl4, upd]⟩
  · exact ⟨M 0 ++ M 1, M 3, by simp; omega, fun m => by simp [fl4, upd]⟩
  · exact ⟨M 0 ++ (M 1 ++ M 2), [], by simp; omega, fun m => by simp [fl4, upd]⟩
/-- The words, the workers, their slots. -/
structure StP (w : World) (g gW lo : Nat) (y0 : LT) (ws : List Int) (X : Nat → Wk) : Prop where
  words : RefOk w gW ws
  low : lo ≤ w.heap.size
  rows : ∃ (M : Nat → List Value) (Ao : Nat → Option Addr), Blk w g 41 (fl4 M).toArray ∧ (∀ q, q < 4 → RowOf w lo y0 (X q) (M q) (Ao q)) ∧ (∀ q r, q < 4 → r < 4 → q ≠ r → blkOf (Ao q) ≠ none → blkOf (Ao q) ≠ blkOf (Ao r))
section
variable {w w' : World} {g gW lo : Nat} {y0 : LT} {ws : List Int} {X : Nat → Wk}
theorem RowOf.len {x : Wk} {m : List Value} {A : Option Addr} (h : RowOf w lo y0 x m A) : m.length = 22 := by
  obtain ⟨y, z, c, rfl, _⟩ := h
  rfl
theorem RowOf.same {x : Wk} {m : List Value} {A : Option Addr} (h : RowOf w lo y0 x m A) (hk : ∀ b, blkOf A = some b → w'.heap[b]? = w.heap[b]?) : RowOf w' lo y0 x m A := by
  obtain ⟨y, z, c, e, ow, r⟩ := h
  exact ⟨y, z, c, e, ow.same hk, r⟩
theorem StP.below (h : StP w g gW lo y0 ws X) (hb : Below w.heap.size w w') : StP w' g gW lo y0 ws X := by
  obtain ⟨h1, h2, M, Ao, h3, h4, h5⟩ := h
  refine ⟨h1.below hb, Nat.le_trans h2 hb.size, M, Ao, h3.below hb h3.lt, fun q hq => ?_, h5⟩
  obtain ⟨y, z, c, e, ow, r⟩ := h4 q hq
  exact ⟨y, z, c, e, ow.below hb, r⟩
theorem StP.ne (h : StP w g gW lo y0 ws X) : gW ≠ g := by
  obtain ⟨h1, h2, M, Ao, h3, h4, h5⟩ := h
  exact Ne.symm (Blk.ne_ h3 h1 (by decide))
theorem begin_St (s t f l p : Int) (q : Nat) (hq : q < 4) (odd : Bool) (h : StP w g gW lo (s, t, f, l, p) ws X) (hc : cfgOk s t f l p = true) (hx : ∀ x ∈ (X q).own, 1 ≤ x ∧ x ≤ s) :
    Calls Tryd.prog 9 #[.pointer (some ⟨g, q * 22, none⟩), .agg #[.int .i64 s, .int .i64 t, .int .i64 f, .int .i64 l, .int .i64 p], .bool odd] w fun e w' => e = .returned (.tuple #[]) ∧ StP w' g gW lo (s, t, f, l, p) ws (upd X q (wBegin odd (X q))) ∧ w.grownBy w' (some g) := by
  have hne := h.ne
  obtain ⟨h1, h2, M, Ao, h3, h4, h5⟩ := h
  obtain ⟨pre, post, hp, hfl⟩ := fl4_mid M (fun q hq => (h4 q hq).len) q hq
  obtain ⟨y, z, c, e, ow, r⟩ := h4 q hq
  have hm : Mid w g 41 pre (M q) post := by
    unfold Mid
    rw [← hfl, upd_self]
    exact h3
  rw [e] at hm
  have hty := fun k (hk : k < 4) => (show blkOf (Ao k) ≠ some g from by obtain ⟨_, _, _, _, ow, _⟩ := h4 k hk; exact ow.type h3 (by decide))
  have fin : ∀ w' m', Mid w' g 41 pre m' post → w.grownBy w' (some g) → (∀ w', OwR w' lo (Ao q) (X q).own.length c (X q).own → RowOf w' lo (s, t, f, l, p) (wBegin odd (X q)) m' (Ao q)) → StP w' g gW lo (s, t, f, l, p) ws (upd X q (wBegin odd (X q))) ∧ w.grownBy w' (some g) := by
    intro w' m' hm' hg hr
    refine ⟨⟨Blk.grown h1 hg (fun e => hne (by injection e)), Nat.le_trans h2 hg.size, upd M q m', Ao, by rw [hfl]; exact hm', fun k hk => ?_, h5⟩, hg⟩
    by_cases e1 : k = q
    · subst e1
      rw [upd_same, upd_same]
      exact hr w' (ow.far hg (fun b hb e => hty k hk (by rw [hb, e])))
    · rw [upd_ne _ _ e1, upd_ne _ _ e1]
      exact (h4 k hk).same fun b hb => hg.block b (by obtain ⟨_, _, _, _, ow, _⟩ := h4 k hk; exact (ow.lt hb).2) (fun e => hty k hk (by rw [hb, e]))
  by_cases hb : (decide ((X q).own.length = 0) || odd) = true
  · refine (begin_pop s t f l p _ _ odd y _ z _ _ _ _ g (q * 22) pre post w hm hp hc hb).mono ?_
    rintro e' w' ⟨rfl, hm', hg⟩
    have hw : wBegin odd (X q) = { X q with busy := true, pops := true, px := (1, 0, 0, 0, 0) } := by
      unfold wBegin
      rw [show (X q).own.isEmpty = decide ((X q).own.length = 0) by cases (X q).own <;> simp, if_pos hb]
    refine ⟨rfl, fin w' _ hm' hg fun w2 ow2 => ?_⟩
    rw [hw]
    exact ⟨(s, t, f, l, p), z, c, rfl, ow2, fun _ => ⟨fun _ => rfl, fun h => by cases h⟩⟩
  · obtain ⟨x, o', ho⟩ : ∃ x o', (X q).own = x :: o' := by
      cases hown : (X q).own with
      | nil => simp [hown] at hb
      | cons x o' => exact ⟨x, o', rfl⟩
    have hodd : odd = false := by
      cases odd
      · rfl
      · simp at hb
    refine (begin_push s t f l p _ _ odd y _ z _ _ _ _ lo g (q * 22) pre post (X q).own w hm hp ow hc x ⟨o', ho⟩ (hx x (by rw [ho]; simp)) hodd).mono ?_
    rintro e' w' ⟨rfl, hm', hg⟩
    have hw : wBegin odd (X q) = { X q with busy := true, pops := false, ux := (1, x, 0, 0) } := by
      unfold wBegin
      rw [show (X q).own.isEmpty = decide ((X q).own.length = 0) by cases (X q).own <;> simp, if_neg hb, show (X q).own.headD 0 = x by rw [ho]; rfl]
    refine ⟨rfl, fin w' _ hm' hg fun w2 ow2 => ?_⟩
    rw [hw]
    exact ⟨y, (s, t, f, l, p), c, rfl, ow2, fun _ => ⟨fun h => by (cases h), fun _ => rfl⟩⟩
def KeptB (w w' : World) (g gW : Nat) (lo : Nat) : Prop := Kept w w' g gW none ∨ ∃ A, Kept w w' g gW A ∧ ∀ b, blkOf A = some b → lo ≤ b
theorem step_St (s t f l p : Int) (q cW : Nat) (hq : q < 4) (h : StP w g gW lo (s, t, f, l, p) ws X) (hc : cfgOk s t f l p = true) (hb : (X q).busy = true) (hlen : (X q).own.length ≤ 1000)
    (hp0 : (X q).pops = true → PpOk s (X q).px) (hu0 : (X q).pops = false → PsIn s (X q).ux ∧ (X q).own ≠ []) (hg64 : W64 (popAsk t f ws (X q)).1) :
    Calls Tryd.prog 10 #[.pointer (some ⟨g, q * 22, none⟩), .slice (some ⟨gW, 0, none⟩) ws.length cW] w fun e w' => e = .returned (.tuple #[]) ∧ StP w' g gW lo (s, t, f, l, p) (wWords t f ws (X q)) (upd X q (wStep s t f ws (X q))) ∧ ∃ A, Kept w w' g gW A ∧ ∀ b, blkOf A = some b → lo ≤ b ∧ ∀ T cs, Blk w b T cs → T = 3 := by
  have hbd := cfgOk_iff.1 hc
  have hs : 1 ≤ s ∧ s ≤ 1000 := by omega
  have ht : 1 ≤ t ∧ t ≤ 64 := by omega
  have hf : 4 ≤ f ∧ f ≤ 64 := by omega
  have hne := h.ne
  obtain ⟨h1, h2, M, Ao, h3, h4, h5⟩ := h
  obtain ⟨pre, post, hp, hfl⟩ := fl4_mid M (fun q hq => (h4 q hq).len) q hq
  obtain ⟨y, z, c, e, ow, r⟩ := h4 q hq
  have hm : Mid w g 41 pre (M q) post := by
    unfold Mid
    rw [← hfl, upd_self]
    exact h3
  rw [e] at hm
  have hty := fun k (hk : k < 4) => (show blkOf (Ao k) ≠ some g from by obtain ⟨_, _, _, _, ow, _⟩ := h4 k hk; exact ow.type h3 (by decide))
  have hty2 := fun k (hk : k < 4) => (show blkOf (Ao k) ≠ some gW from by obtain ⟨_, _, _, _, ow, _⟩ := h4 k hk; exact ow.type h1 (by decide))
  have hlt := fun k (hk : k < 4) b (hb : blkOf (Ao k) = some b) => (show lo ≤ b ∧ b < w.heap.size from by obtain ⟨_, _, _, _, ow, _⟩ := h4 k hk; exact ow.lt hb)
  have fin : ∀ w' m' A' ws', Mid w' g 41 pre m' post → RefOk w' gW ws' → Kept w w' g gW (Ao q) → (blkOf A' = blkOf (Ao q) ∨ ∃ b, blkOf A' = some b ∧ w.heap.size ≤ b) → RowOf w' lo (s, t, f, l, p) (wStep s t f ws (X q)) m' A' →
      StP w' g gW lo (s, t, f, l, p) ws' (upd X q (wStep s t f ws (X q))) ∧ ∃ A, Kept w w' g gW A ∧ ∀ b, blkOf A = some b → lo ≤ b ∧ ∀ T cs, Blk w b T cs → T = 3 := by
    intro w' m' A' ws' hm' hR hK hA hr
    refine ⟨⟨hR, Nat.le_trans h2 hK.size, upd M q m', upd Ao q A', by rw [hfl]; exact hm', fun k hk => ?_, fun a b ha hb' hab hna => ?_⟩, Ao q, hK, fun b hb => ⟨(hlt q hq b hb).1, fun T cs hT => ?_⟩⟩
    · by_cases e1 : k = q
      · subst e1
        rw [upd_same, upd_same, upd_same]
        exact hr
      · rw [upd_ne _ _ e1, upd_ne _ _ e1, upd_ne _ _ e1]
        exact (h4 k hk).same fun b hb => hK.block b (hlt k hk b hb).2 (fun e => hty k hk (by rw [hb, e])) (fun e => hty2 k hk (by rw [hb, e])) (fun e => h5 k q hk hq e1 (by rw [hb]; simp) (by rw [hb, e]))
    · by_cases ea : a = q
      · subst ea
        have eb : b ≠ a := fun e => hab e.symm
        rw [upd_same] at hna ⊢
        rw [upd_ne _ _ eb]
        rcases hA with hA | ⟨b9, hA, h9⟩
        · rw [hA] at hna ⊢
          exact h5 a b ha hb' hab hna
        · rw [hA]
          intro e
          have := (hlt b hb' b9 e.symm).2
          omega
      · rw [upd_ne _ _ ea] at hna ⊢
        by_cases eb : b = q
        · subst eb
          rw [upd_same]
          rcases hA with hA | ⟨b9, hA, h9⟩
          · rw [hA]
            exact h5 a b ha hb' hab hna
          · rw [hA]
            intro e
            have := (hlt a ha b9 e).2
            omega
        · rw [upd_ne _ _ eb]
          exact h5 a b ha hb' hab hna
    · rcases ow.2.2.2 with ⟨e9, _⟩ | ⟨b9, off, cur, e9, _, hcur, _⟩
      · rw [e9] at hb
        simp [blkOf] at hb
      · rw [e9] at hb
        have : b9 = b := by simpa [blkOf] using hb
        subst this
        exact (Classical.byContradiction fun hT9 => (hT.ne_ hcur (fun e => hT9 e)) rfl)
  cases hpop : (X q).pops with
  | true =>
    have hy := (r hb).1 hpop
    rw [hpop, hy] at hm
    refine (step_pop s t f l p _ _ z _ _ _ c lo g (q * 22) gW cW pre post (X q).own ws w hm hp ow h1 hs ht hf (hp0 hpop) hlen h2 _ _ rfl hg64).mono ?_
    rintro e' w' ⟨rfl, A', n', c', hm', ow', hR, hK, hA⟩
    refine ⟨rfl, ?_⟩
    have hn' := ow'.1
    have e1 : wWords t f ws (X q) = (popAsk t f ws (X q)).2 := by unfold wWords; rw [if_pos hpop]
    rw [e1]
    refine fin w' _ A' _ hm' hR hK hA ?_
    have e2 : wStep s t f ws (X q) = wPop s t f ws (X q) := by unfold wStep; rw [if_pos hpop]
    rw [e2]
    subst hn'
    exact ⟨(s, t, f, l, p), z, c', by unfold wPop; rw [hpop]; rfl, ow', fun _ => ⟨fun _ => rfl, fun h => by unfold wPop at h; rw [hpop] at h; cases h⟩⟩
  | false =>
    have hz := (r hb).2 hpop
    obtain ⟨hin, hnil⟩ := hu0 hpop
    obtain ⟨x0, o', ho⟩ : ∃ x0 o', (X q).own = x0 :: o' := by
      cases hown : (X q).own with
      | nil => exact absurd hown hnil
      | cons x0 o' => exact ⟨x0, o', rfl⟩
    rw [hpop, hz, ho] at hm
    have ow2 := ow
    rw [ho] at ow2
    refine (step_push s t f l p _ y _ _ _ o'.length c lo g (q * 22) gW cW pre post x0 o' ws w hm hp ow2 h1 hs ht hf hin (pushAsk t f ws (X q)).1 (pushAsk t f ws (X q)).2 rfl).mono ?_
    rintro e' w' ⟨rfl, A', n', c', hm', ow', hR, hK, hA⟩
    refine ⟨rfl, ?_⟩
    have hn' := ow'.1
    have e1 : wWords t f ws (X q) = (pushAsk t f ws (X q)).2 := by unfold wWords; rw [if_neg (by rw [hpop]; simp)]
    rw [e1]
    refine fin w' _ A' _ hm' hR hK hA ?_
    have e2 : wStep s t f ws (X q) = wPush t f ws (X q) := by unfold wStep; rw [if_neg (by rw [hpop]; simp)]
    rw [e2]
    subst hn'
    unfold wPush
    by_cases h0 : (psTook (X q).ux (pushAsk t f ws (X q)).1).1 = 0
    · rw [if_pos h0] at ow'
      simp only [if_pos h0]
      exact ⟨y, (s, t, f, l, p), c', by first | (rw [hpop, ho]; done) | (rw [hpop, ho]; rfl), by rw [ho]; exact ow', fun h => by cases h⟩
    · rw [if_neg h0] at ow'
      simp only [if_neg h0]
      exact ⟨y, (s, t, f, l, p), c', by first | (rw [hpop, ho]; done) | (rw [hpop, ho]; rfl), by rw [ho]; exact ow', fun _ => ⟨fun h => by (rw [hpop] at h; cases h), fun _ => rfl⟩⟩
end
end Go.Proofs.YteiidfklepjpmaaDoor

/-
  The document's list of free slots: gleaningref10.Has, gleaningref10.Free.
-/
namespace Go.Proofs.YteiidfklepjpmaaDoor
open Go.RowKit

theorem take_snocI (l : List Int) (k : Nat) (hk : k < l.length) : l.take (k + 1) = l.take k ++ [l[k]] := by rw [List.take_add_one, List.getElem?_eq_getElem hk]; rfl
def HasIn (n : Nat) (l : List Int) (x : Int) (w : World) (i : Value) (wr : World) : Prop :=
  ∃ k : Nat, i = .int .i64 k ∧ k ≤ n ∧ Below w.heap.size w wr ∧ x ∉ l.take k
set_option maxRecDepth 100000 in
set_option maxHeartbeats 4000000 in
theorem rhas10_any (A : Option Addr) (n c : Nat) (l : List Int) (x : Int) (w : World) (hn : n ≤ 1000000) (hr : Reads w w.heap.size 1 A n (ints .i64 l)) :
    Calls Tryd.prog 30 #[.slice A n c, .int .i64 x] w fun e w' => e = .returned (.bool (decide (x ∈ l))) ∧ Below w.heap.size w w' := by
  go_enter Tryd.func30, Tryd.ntmps30
  go_wp2_with fail
  go_loopw [5] (HasIn n l x w) (fun i _ => n - (intOf i).toNat)
  case atStart => exact ⟨0, rfl, by omega, Below.refl _ _, by simp⟩
  case round =>
    obtain ⟨k, rfl, hk, hb, hc⟩ := hrel
    have Hc := hide hc
    clear hc
    by_cases hlt : k < n
    · obtain ⟨a, rfl, hkl, z1⟩ := (hr.below hb).word hlt
      have Htk := hide (take_snocI l k hkl)
      have Hmem := hide (List.getElem_mem hkl)
      generalize l[k] = y at *
      by_cases h1 : y = x
      · have HX := hide (show x ∈ l from h1 ▸ Hmem.out)
        have h1' : (y == x) = true := by simpa using h1
        clear h1
        go_wp2_with fail
        go_ret
        exact ⟨by rw [decide_eq_true HX.out]; rfl, hb⟩
      · have h1' : (y == x) = false := beq_eq_false_iff_ne.2 h1
        have H1 := hide h1
        clear h1
        go_wp2_with fail
        go_roundw
        case rel => exact ⟨k + 1, by go_num, by omega, hb, by rw [Htk.out, List.mem_append]; exact fun h => h.elim Hc.out (fun h => H1.out (List.mem_singleton.1 h).symm)⟩
        case measure => simp [intOf]; omega
    · have e : l.take k = l := List.take_of_length_le (by have := hr.lenWord; omega)
      have HX := hide (show x ∉ l from e ▸ Hc.out)
      clear e
      go_wp2_with fail
      go_ret
      exact ⟨by rw [decide_eq_false HX.out]; rfl, hb⟩
def RfIn (g gc : Nat) (ws : List Int) (s t f l p : Int) (nx : Int → Int) (R : List Int × Bool) (w : World) (o i : Value) (wr : World) : Prop :=
  ∃ (x : Int) (q : List Int) (A : Option Addr) (c : Nat), o = .slice A q.length c ∧ i = .int .u64 x ∧ W64 x ∧ Nice s q ∧ frN nx s (s.toNat + 1 - q.length) x q = R ∧
    wr.ownsRow (w.heap.size + 1) 3 1 (.slice A q.length c) q.length (ints .i64 q) ∧ RefOk wr g ws ∧ Blk wr gc 23 #[.int .i64 s, .int .i64 t, .int .i64 f, .int .i64 l, .int .i64 p] ∧ w.heap.size + 1 ≤ wr.heap.size ∧ Below w.heap.size w wr
set_option maxRecDepth 100000 in
set_option maxHeartbeats 4000000 in
theorem rfree_any (g : Nat) (s t f l p : Int) (N c0 : Nat) (ws : List Int) (w : World) (hs : 1 ≤ s ∧ s ≤ 1000) (ht : 1 ≤ t ∧ t ≤ 64) (hf : 4 ≤ f ∧ f ≤ 64) (hN : laySize s t f = N) (hl : ws.length = N) (R : RefOk w g ws) (h64 : AllW64 ws) :
    Calls Tryd.prog 29 #[.agg #[.int .i64 s, .int .i64 t, .int .i64 f, .int .i64 l, .int .i64 p], .slice (some ⟨g, 0, none⟩) N c0] w fun e w' => (∃ A c, e = .returned (.tuple #[.slice A (frR ws s t f).1.length c, .bool (frR ws s t f).2]) ∧ w'.ownsRow (w.heap.size + 1) 3 1 (.slice A (frR ws s t f).1.length c) (frR ws s t f).1.length (ints .i64 (frR ws s t f).1)) ∧ Below w.heap.size w w' := by
  obtain ⟨i0, hi0, hz0, hs0, hb0⟩ := info_parts infoI10
  have hsp := size_pos hs ht hf
  have HA := hide (fun A n c q x w2 hn hr => rhas10_any A n c q x w2 hn hr)
  have CK := hide (fun (x : Int) (h1 : 1 ≤ x) (h2 : x ≤ s) w2 => rlnkB_any s t f l p x w2 hs ht hf (by omega))
  have W2 := hide (wGet_w64 h64)
  have hx0 : 0 ≤ wGet ws 2 % 65536 ∧ wGet ws 2 % 65536 < 65536 := by omega
  have hx1 := (W2.out 2).1
  have hws : IntKind.u64.wrap s = s := IntWalk.u64_in _ (by omega)
  have z2 := R.at_ (j := 2) (by omega)
  rw [show ws.getD 2 0 = wGet ws 2 by unfold wGet; rw [if_pos (by omega)]; rfl] at z2
  have q2 : (2 : Int) < (N : Int) := by omega
  have qN2 : ((N : Int) == 0) = false := by rw [beq_eq_false_iff_ne]; omega
  have hgl := Blk.lt (w := w) (g := g) R
  have HGL := hide hgl
  have HSP := hide hsp
  have HNN := hide hN
  have HLL := hide hl
  have B0 := (Below.refl w.heap.size w).alloc (Nat.le_refl _) (.cells #[.int .i64 s, .int .i64 t, .int .i64 f, .int .i64 l, .int .i64 p] 23)
  have bc := Blk.new w 23 #[.int .i64 s, .int .i64 t, .int .i64 f, .int .i64 l, .int .i64 p]
  have R1 : RefOk (w.alloc (.cells #[.int .i64 s, .int .i64 t, .int .i64 f, .int .i64 l, .int .i64 p] 23)) g ws := R.below ((Below.refl w.heap.size w).alloc (Nat.le_refl _) _)
  have O0 : (w.alloc (.cells #[.int .i64 s, .int .i64 t, .int .i64 f, .int .i64 l, .int .i64 p] 23)).ownsRow (w.heap.size + 1) 3 1 (.slice none 0 0) 0 (ints .i64 []) := World.ownsRow_nil _ _ _ _
  have z2b := R1.at_ (j := 2) (by omega)
  rw [show ws.getD 2 0 = wGet ws 2 by unfold wGet; rw [if_pos (by omega)]; rfl] at z2b
  clear R z2 hsp hl h64 hgl hN
  go_enter Tryd.func29, Tryd.ntmps29
  go_wp2_with fail
  have HX := hide hx0
  have hz : w.heap.size + 1 ≤ (w.alloc (.cells #[.int .i64 s, .int .i64 t, .int .i64 f, .int .i64 l, .int .i64 p] 23)).heap.size := by rw [World.size_alloc]; exact Nat.le_refl _
  clear hx0 z2b hx1
  go_loopw [6, 7] (RfIn g w.heap.size ws s t f l p (nxt ws t f) (frR ws s t f) w) (fun o _ _ => s.toNat + 1 - lenV o)
  case atStart => exact ⟨_, [], none, 0, rfl, rfl, ⟨by have := HX.out; omega, by have := HX.out; omega⟩, nice_nil s, rfl, O0, R1, bc, hz, B0⟩
  case round =>
    clear B0 O0 R1 bc hz
    obtain ⟨x, q, A, c, rfl, rfl, hx, hN, hR, ho, R, bc, hz, B⟩ := hrel
    have hlen := nice_len s.toNat q (by rw [Int.toNat_of_nonneg (by omega)]; exact hN)
    obtain ⟨n, hn⟩ : ∃ n, s.toNat + 1 - q.length = n + 1 := ⟨s.toNat - q.length, by omega⟩
    rw [hn] at hR
    unfold frN at hR
    have hR := hide hR
    obtain ⟨hx1, hx2⟩ := hx
    have HNI := hide hN
    have HNM := hide hn
    have HLN := hide hlen
    have mc := fun i => bc.cell i
    clear hN hn hlen
    by_cases h0 : x = 0
    · have e := hR.out
      rw [if_pos h0] at e
      subst h0
      have HE := hide e
      clear e hR
      go_wp2_with fail
      go_ret2
      refine ⟨⟨A, c, ?_, ?_⟩, B⟩
      · rw [← HE.out]; rfl
      · rw [← HE.out]; exact ho
    · have d0 : (x != 0) = true := by simpa using h0
      have HX1 := hide (show 1 ≤ x by omega)
      have R2 := hide ((if_neg h0).symm.trans hR.out)
      clear h0 hR
      by_cases h1 : s < x
      · have e := R2.out
        rw [if_pos (.inl h1)] at e
        have HE := hide e
        have d1 : decide (s < x) = true := by rw [decide_eq_true_iff]; exact h1
        clear e R2 h1
        go_wp2_with fail
        go_ret2
        refine ⟨⟨A, c, ?_, ?_⟩, B⟩
        · rw [← HE.out]; rfl
        · rw [← HE.out]; exact ho
      · have d1 : decide (s < x) = false := by rw [decide_eq_false_iff_not]; exact h1
        have hxs : x ≤ s := by omega
        have hwx : IntKind.i64.wrap x = x := IntWalk.i64_in _ (by omega)
        obtain ⟨A', c', e0x, hrd⟩ := own_reads ho
        simp only [Value.slice.injEq, true_and] at e0x
        obtain ⟨rfl, rfl⟩ := e0x
        have HQ := hide (fun w2 hr => HA.out A q.length c q x w2 (by have := HLN.out; omega) hr)
        have HRD := hide hrd
        clear hrd
        by_cases h2 : x ∈ q
        · have e := R2.out
          rw [if_pos (.inr h2)] at e
          have HE := hide e
          rw [decide_eq_true h2] at HQ
          clear e R2 h1 h2
          go_wp2_with fail
          refine (HQ.out _ HRD.out).mono ?_
          rintro e w4 ⟨rfl, hb1⟩
          replace ho := own_below ho hb1
          replace bc := bc.below hb1 bc.lt
          replace R := R.below hb1
          replace B := B.trans (hb1.mono B.size)
          replace hz := Nat.le_trans hz hb1.size
          clear hb1 mc
          go_wp2_with fail
          go_ret2
          refine ⟨⟨A, c, ?_, ?_⟩, B⟩
          · rw [← HE.out]; rfl
          · rw [← HE.out]; exact ho
        · have e := R2.out
          rw [if_neg (fun h => h.elim h1 h2)] at e
          have HE := hide e
          have HS2 := hide (nice_snoc HNI.out ⟨HX1.out, hxs⟩ h2)
          rw [decide_eq_false h2] at HQ
          have bk := nB_bd hs ht hf (sl := x) (by omega)
          obtain ⟨j, hj⟩ : ∃ j : Nat, nB t f x + 2 = j := Int.eq_ofNat_of_zero_le (by omega)
          have CKx := hide (CK.out x HX1.out hxs)
          rw [hj] at CKx
          have hjN : (j : Int) < (N : Int) := by have := HNN.out; omega
          have ZJ := hide (fun w2 (h : RefOk w2 g ws) => (show w2.cell? ⟨g, j, none⟩ = some (.int .u64 (nxt ws t f x)) from by
            rw [h.at_ (j := j) (by have := HLL.out; omega)]
            unfold nxt wGet
            rw [hj, if_pos (by have := HLL.out; omega)]
            rfl))
          have HNX := hide (W2.out (nB t f x + 2))
          clear e R2 h1 h2 bk hj
          have hl2 : q.length ≤ 4294967296 := by have := HLN.out; omega
          go_wp2_with fail
          refine (HQ.out _ HRD.out).mono ?_
          rintro e w4 ⟨rfl, hb1⟩
          replace ho := own_below ho hb1
          replace bc := bc.below hb1 bc.lt
          replace R := R.below hb1
          replace B := B.trans (hb1.mono B.size)
          replace hz := Nat.le_trans hz hb1.size
          clear hb1 mc
          have mc := fun i => bc.cell i
          have ho6 := ho.alloc (.cells #[.int .i64 x] 3)
          go_wp2_with (at_builtin
                       refine wpList_append_one rfl (.tmp 29) (.tmp 32) _ rfl (w.heap.size + 1) 3 i0 _ 1 8 Tryd.underlying24 hi0 hz0 hs0 hb0 rfl (by omega) (by omega) (.slice A q.length c) q.length _ rfl ho6 w4.heap.size #[.int .i64 x] rfl (Blk.new _ _ _) rfl rfl hl2 (by rw [World.size_alloc]; omega) ?_
                       intro A3 c3 w6 ho7 hg6 hat6
                       have B6 := below_appended (B.alloc (by omega) (.cells #[.int .i64 x] 3)) ho6 hg6 (by omega) (by rw [World.size_alloc]; omega)
                       have bc6 := blk_appended (bc.alloc (.cells #[.int .i64 x] 3)) ho6 hg6 (by omega)
                       have R6 := blk_appended (Blk.alloc (w := w4) R (.cells #[.int .i64 x] 3)) ho6 hg6 (by have := HGL.out; omega)
                       have hz6 : w.heap.size + 1 ≤ w6.heap.size := by have := hg6.size; rw [World.size_alloc] at this; omega
                       clear mc
                       have mc := fun i => bc6.cell i)
          refine (CKx.out _).mono ?_
          rintro e w7 ⟨rfl, hb1⟩
          replace ho7 := own_below ho7 hb1
          replace bc6 := bc6.below hb1 bc6.lt
          replace R6 := Blk.below R6 hb1 (Blk.lt R6)
          replace B6 := B6.trans (hb1.mono B6.size)
          replace hz6 := Nat.le_trans hz6 hb1.size
          clear hb1 mc
          have zj := ZJ.out _ R6
          go_wp2_with fail
          go_roundw
          case measure => simp [lenV]; have := HLN.out; omega
          case rel => exact ⟨nxt ws t f x, q ++ [x], A3, c3, by rw [List.length_append]; rfl, rfl, HNX.out, HS2.out, by rw [List.length_append, show s.toNat + 1 - (q.length + [x].length) = n by have := HNM.out; simp only [List.length_singleton]; omega]; exact HE.out, by rw [List.length_append, ints_append]; exact ho7, R6, bc6, hz6, B6⟩
end Go.Proofs.YteiidfklepjpmaaDoor

