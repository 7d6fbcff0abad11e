/-
  A map from ints to bools that the call itself makes: what stands at a key, behind a store.
-/
import Derived.Test.YtokcbipmocpllaaDoorC6
import Derived.Maps.Own
import Derived.Maps.OwnOps
import Derived.Maps.Views
namespace Go.Proofs.YtokcbipmocpllaaDoor
open Go.RowKit Go.Maps

theorem lawI64 : Keyed Tryd.prog 3 := int_keyed Tryd.underlying3
theorem zeroBoolI (w : World) : (zeroValue 4).run Tryd.prog w = .ok (.bool false) w := by kernel_rfl

theorem plainElem_bool_invI {H : Type} {P : Program} {e : TypeId} (he : P.underlying e = some .bool) {v : Value} {z : DataW H × List MemPlace} (h : plainElem P e v = some z) : ∃ a, v = .bool a ∧ z = (.lit (.bool a), []) := by
  unfold plainElem at h
  rw [he] at h
  cases v <;> simp at h
  exact ⟨_, rfl, h.symm⟩

/-- Block b is a map of at most n entries that answers f. -/
def MapInt (w : World) (b n : Nat) (f : Int → Bool) : Prop :=
  ∃ D : DataW Unit, IsMap D ∧ w.ownsMap Tryd.prog 3 (plainElem Tryd.prog 4) b n D ∧ ∀ k : Int, (Lit.int .i64 k).wf = true → D.atKey (.int .i64 k) (.lit (.bool false)) = .lit (.bool (f k))

theorem MapInt.made (w : World) : MapInt (w.alloc (.map #[] 0)) w.heap.size 0 (fun _ => false) :=
  ⟨.map [], ⟨[], rfl⟩, World.ownsMap_made _ _ _ _, fun _ _ => rfl⟩
theorem MapInt.below {w w' : World} {b n : Nat} {f : Int → Bool} (h : MapInt w b n f) (hb : Below w.heap.size w w') : MapInt w' b n f := by
  obtain ⟨D, hi, ho, ha⟩ := h
  exact ⟨D, hi, ho.kept (row := none) ⟨hb.os, hb.tape, hb.output, hb.size, fun k hk _ => hb.block k hk⟩ (by simp), ha⟩
theorem MapInt.below' {w w' : World} {b n B : Nat} {f : Int → Bool} (h : MapInt w b n f) (hB : b < B) (hb : Below B w w') : MapInt w' b n f := by
  obtain ⟨D, hi, ⟨es, cl, hh, r⟩, ha⟩ := h
  exact ⟨D, hi, ⟨es, cl, (hb.block b hB).trans hh, r⟩, ha⟩
theorem MapInt.alloc {w : World} {b n : Nat} {f : Int → Bool} (h : MapInt w b n f) (o : Obj) : MapInt (w.alloc o) b n f := by
  obtain ⟨D, hi, ho, ha⟩ := h
  exact ⟨D, hi, ho.alloc o, ha⟩
theorem MapInt.lt {w : World} {b n : Nat} {f : Int → Bool} (h : MapInt w b n f) : b < w.heap.size := by
  obtain ⟨D, hi, ho, ha⟩ := h
  exact ho.lt

theorem atKey_putI {D : DataW Unit} (hi : IsMap D) (x k : Int) (y : Bool) (z : DataW Unit) : (D.put (.int .i64 x) (.lit (.bool y))).atKey (.int .i64 k) z = if k = x then .lit (.bool y) else D.atKey (.int .i64 k) z := by
  by_cases h : k = x
  · subst h
    rw [if_pos rfl]
    exact atKey_put_same hi (by simp [WideAt.IsKeyLit]) _ _
  · rw [if_neg h]
    exact atKey_put_other (fun e => h (by injection e)) _ _

end Go.Proofs.YtokcbipmocpllaaDoor

/-
  The list of free slots: arena.Free.
-/
namespace Go.Proofs.YtokcbipmocpllaaDoor
open Go.RowKit Go.Maps

def frN (nx : Int → Int) (s : Int) : Nat → Int → List Int → List Int × Bool
  | 0, _, l => (l, false)
  | n + 1, x, l => if x = 0 then (l, true) else if s < x ∨ x ∈ l then (l, false) else frN nx s n (nx x) (l ++ [x])
def Nice (s : Int) (l : List Int) : Prop := l.Nodup ∧ ∀ x ∈ l, 1 ≤ x ∧ x ≤ s
theorem nice_nil (s : Int) : Nice s [] := ⟨List.nodup_nil, fun x hx => by simp at hx⟩
theorem nice_len : ∀ (n : Nat) (l : List Int), Nice (n : Int) l → l.length ≤ n
  | 0, l, h => by
    cases l with
    | nil => simp
    | cons x l => have := h.2 x (by simp); omega
  | n + 1, l, h => by
    have h1 : Nice (n : Int) (l.erase ((n : Int) + 1)) := by
      refine ⟨h.1.erase _, fun x hx => ?_⟩
      have hm := (h.1.mem_erase_iff).1 hx
      have := h.2 x hm.2
      have := hm.1
      omega
    have h2 := nice_len n _ h1
    have h3 := List.length_erase (a := (n : Int) + 1) (l := l)
    split at h3 <;> omega
theorem nice_snoc {s x : Int} {l : List Int} (h : Nice s l) (h1 : 1 ≤ x ∧ x ≤ s) (hn : x ∉ l) : Nice s (l ++ [x]) := by
  refine ⟨?_, fun y hy => ?_⟩
  · rw [List.nodup_append]
    refine ⟨h.1, by simp, fun a ha b hb => ?_⟩
    simp at hb
    subst hb
    exact fun e => hn (e ▸ ha)
  · rcases List.mem_append.1 hy with hy | hy
    · exact h.2 y hy
    · simp at hy
      omega
def nxt (ws : List Int) (t f k : Int) : Int := wGet ws (nB t f k + 2)
theorem wGet_w64 {ws : List Int} (h : AllW64 ws) (a : Int) : W64 (wGet ws a) := by
  unfold wGet
  split
  next c =>
    rw [List.getD_eq_getElem?_getD, List.getElem?_eq_getElem (by omega)]
    exact h _ (List.getElem_mem _)
  · exact ⟨by omega, by omega⟩
theorem MapInt.grown {w w' : World} {b n : Nat} {f : Int → Bool} {row : Option Nat} (h : MapInt w b n f) (hg : w.grownBy w' row) (hne : some b ≠ row) : MapInt w' b n f := by
  obtain ⟨D, hi, ho, ha⟩ := h
  exact ⟨D, hi, ho.kept hg hne, ha⟩
theorem infoI10 : (Tryd.prog.info? 3).map (fun i => (i.zero, i.size, i.bytes)) = some (some (.int .i64 0), 1, 8) := by kernel_rfl
def frR (ws : List Int) (s t f : Int) : List Int × Bool := frN (nxt ws t f) s (s.toNat + 1) (wGet ws 2 % 65536) []
def lenV : Value → Nat
  | .slice _ n _ => n
  | _ => 0
def FrIn (s : Int) (nx : Int → Int) (R : List Int × Bool) (w : World) (o i : Value) (wr : World) : Prop :=
  ∃ (x : Int) (l : List Int) (A : Option Addr) (c : Nat), o = .slice A l.length c ∧ i = .int .u64 x ∧ W64 x ∧ Nice s l ∧ frN nx s (s.toNat + 1 - l.length) x l = R ∧
    wr.ownsRow (w.heap.size + 1) 3 1 (.slice A l.length c) l.length (ints .i64 l) ∧ MapInt wr w.heap.size l.length (fun k => decide (k ∈ l)) ∧ w.heap.size + 1 ≤ wr.heap.size ∧ Below w.heap.size w wr
end Go.Proofs.YtokcbipmocpllaaDoor

/-
  The list of free slots of a machine that begins: from 2 on.
-/
namespace Go.Proofs.YtokcbipmocpllaaDoor
open Go.RowKit

/-- So many slots, from 2 on. -/
def rg2 (n : Nat) : List Int := (List.range n).map fun (i : Nat) => (i : Int) + 2
theorem rg2_len (n : Nat) : (rg2 n).length = n := by simp [rg2]
theorem rg2_succ (n : Nat) : rg2 (n + 1) = rg2 n ++ [(n : Int) + 2] := by simp [rg2, List.range_succ]
theorem rg2_mem (n : Nat) (x : Int) : x ∈ rg2 n ↔ 2 ≤ x ∧ x < (n : Int) + 2 := by
  simp only [rg2, List.mem_map, List.mem_range]
  constructor
  · rintro ⟨i, hi, rfl⟩
    omega
  · intro h
    exact ⟨(x - 2).toNat, by omega, by omega⟩
theorem beg_get {s t f a : Int} (h : 0 ≤ a ∧ a < laySize s t f) : wGet (begL s t f) a = begAt s t f a := by
  unfold wGet
  have hl := begL_len s t f
  rw [if_pos (by omega), begL_at (by omega)]
  rw [show ((a.toNat : Nat) : Int) = a by omega]
theorem beg_nxt {s t f k : Int} (hs : 1 ≤ s ∧ s ≤ 1000) (ht : 1 ≤ t ∧ t ≤ 64) (hf : 4 ≤ f ∧ f ≤ 64) (hk : 2 ≤ k ∧ k ≤ s) : nxt (begL s t f) t f k = if k < s then k + 1 else 0 := by
  unfold nxt
  have b := nB_bd hs ht hf (sl := k) (by omega)
  rw [beg_get (by omega)]
  have h2 := (at_or (t := t) (f := f) (j := nB t f k + 2) (k := k) (c := 2) (by omega) (by omega)).1 rfl
  have hp : nB t f k + 2 ≠ 2 := by
    have : 0 ≤ k * (3 + 2 * f) := Int.mul_nonneg (by omega) (by omega)
    unfold nB
    omega
  unfold begAt
  rw [if_neg hp]
  unfold bK bOR
  rw [h2.1, h2.2]
  repeat' split
  all_goals omega
theorem frN_beg {s t f : Int} (hs : 1 ≤ s ∧ s ≤ 1000) (ht : 1 ≤ t ∧ t ≤ 64) (hf : 4 ≤ f ∧ f ≤ 64) : ∀ (d m n : Nat), (m : Int) + 2 + d = s → d + 2 ≤ n → frN (nxt (begL s t f) t f) s n ((m : Int) + 2) (rg2 m) = (rg2 (m + d + 1), true)
  | 0, m, n, hm, hn => by
    obtain ⟨n, rfl⟩ : ∃ n', n = n' + 2 := ⟨n - 2, by omega⟩
    unfold frN
    rw [if_neg (by omega), if_neg (by rw [rg2_mem]; omega), beg_nxt hs ht hf (by omega), if_neg (by omega), ← rg2_succ]
    unfold frN
    rw [if_pos rfl]
  | d + 1, m, n, hm, hn => by
    obtain ⟨n, rfl⟩ : ∃ n', n = n' + 1 := ⟨n - 1, by omega⟩
    unfold frN
    rw [if_neg (by omega), if_neg (by rw [rg2_mem]; omega), beg_nxt hs ht hf (by omega), if_pos (by omega), ← rg2_succ]
    have h := frN_beg hs ht hf d (m + 1) n (by omega) (by omega)
    rw [show (m : Int) + 2 + 1 = ((m + 1 : Nat) : Int) + 2 by omega, h, show m + 1 + d + 1 = m + (d + 1) + 1 by omega]
theorem frR_beg {s t f : Int} (hs : 1 ≤ s ∧ s ≤ 1000) (ht : 1 ≤ t ∧ t ≤ 64) (hf : 4 ≤ f ∧ f ≤ 64) : frR (begL s t f) s t f = (rg2 (s - 1).toNat, true) := by
  unfold frR
  have hsp := size_pos hs ht hf
  rw [beg_get (by omega)]
  unfold begAt
  rw [if_pos rfl]
  by_cases h : 2 ≤ s
  · rw [if_pos h, show (2 : Int) % 65536 = ((0 : Nat) : Int) + 2 by rfl]
    have h := frN_beg hs ht hf (s - 2).toNat 0 (s.toNat + 1) (by omega) (by omega)
    rw [show 0 + (s - 2).toNat + 1 = (s - 1).toNat by omega, show rg2 0 = [] from rfl] at h
    exact h
  · rw [if_neg h, show (s - 1).toNat = 0 by omega]
    unfold frN
    rw [if_pos (by rfl)]
    rfl
end Go.Proofs.YtokcbipmocpllaaDoor

/-
  What becomes of a sweep's lists, in plain Lean.
-/
namespace Go.Proofs.YtokcbipmocpllaaDoor
open Go.RowKit

/-- A list of slots, each linked to the next. -/
def Ch (nx : Int → Int) : Int → List Int → Prop
  | x, [] => x = 0
  | x, y :: l => x = y ∧ Ch nx (nx y) l
theorem Ch.frN {nx : Int → Int} {s : Int} : ∀ (l : List Int) (n : Nat) (x : Int) (q : List Int), Ch nx x l → Nice s (q ++ l) → l.length < n → frN nx s n x q = (q ++ l, true)
  | [], n, x, q, h, hq, hn => by
    obtain ⟨n, rfl⟩ : ∃ n', n = n' + 1 := ⟨n - 1, by omega⟩
    unfold Proofs.YtokcbipmocpllaaDoor.frN
    rw [if_pos (show x = 0 from h), List.append_nil]
  | y :: l, n, x, q, h, hq, hn => by
    obtain ⟨n, rfl⟩ : ∃ n', n = n' + 1 := ⟨n - 1, by omega⟩
    obtain ⟨rfl, h⟩ := h
    have hy := hq.2 x (by simp)
    have hnq : x ∉ q := fun hm => by
      have := List.nodup_append.1 hq.1
      exact this.2.2 x hm x (by simp) rfl
    unfold Proofs.YtokcbipmocpllaaDoor.frN
    rw [if_neg (by omega), if_neg (by intro h9; rcases h9 with h9 | h9; omega; exact hnq h9)]
    have e : q ++ x :: l = (q ++ [x]) ++ l := by simp
    rw [e] at hq ⊢
    simp only [List.length_cons] at hn
    exact Ch.frN l n (nx x) (q ++ [x]) h hq (by omega)
theorem Ch.congr {nx nx' : Int → Int} : ∀ {l : List Int} {x : Int}, Ch nx x l → (∀ y ∈ l, nx y = nx' y) → Ch nx' x l
  | [], _, h, _ => h
  | y :: l, _, h, hy => ⟨h.1, by rw [← hy y (by simp)]; exact Ch.congr h.2 (fun z hz => hy z (by simp [hz]))⟩
/-- These are the free slots. -/
def FreeAre (ws : List Int) (s t f : Int) (l : List Int) : Prop := Ch (nxt ws t f) (wGet ws 2 % 65536) l ∧ Nice s l
theorem FreeAre.frR {ws : List Int} {s t f : Int} {l : List Int} (h : FreeAre ws s t f l) (hs : 0 ≤ s) : frR ws s t f = (l, true) := by
  unfold Proofs.YtokcbipmocpllaaDoor.frR
  have hl := nice_len s.toNat l (by rw [show ((s.toNat : Nat) : Int) = s by omega]; exact h.2)
  have := Ch.frN l (s.toNat + 1) _ [] h.1 (by simpa using h.2) (by omega)
  simpa using this
theorem wGet_put {ws : List Int} {a b v : Int} (h0 : 0 ≤ a) (h1 : a < ws.length) : wGet (wPut ws a v) b = if b = a then v else wGet ws b := by
  have hp : wPut ws a v = ws.set a.toNat v := by unfold wPut; rw [if_pos ⟨h0, h1⟩]
  unfold wGet
  rw [hp, List.length_set]
  by_cases hb : 0 ≤ b ∧ b < ws.length
  · rw [if_pos hb, if_pos hb, getD_set _ _ _ _ (by omega)]
    by_cases e : b = a
    · rw [if_pos e, if_pos (by omega)]
    · rw [if_neg e, if_neg (by omega)]
  · rw [if_neg hb, if_neg hb, if_neg (by omega)]
theorem nB_inj {t f a b : Int} (hf : 4 ≤ f) (h : nB t f a = nB t f b) : a = b := by
  rcases Int.lt_trichotomy a b with h1 | h1 | h1
  · have := nB_lt (t := t) hf h1; omega
  · exact h1
  · have := nB_lt (t := t) hf h1; omega
theorem nxt_put {ws : List Int} {t f x y v : Int} (hf : 4 ≤ f) (h0 : 0 ≤ nB t f x + 2) (h1 : nB t f x + 2 < ws.length) : nxt (wPut ws (nB t f x + 2) v) t f y = if y = x then v else nxt ws t f y := by
  unfold nxt
  rw [wGet_put h0 h1]
  by_cases e : y = x
  · subst e; rw [if_pos rfl, if_pos rfl]
  · rw [if_neg e, if_neg (fun h => e (nB_inj (t := t) (f := f) hf (by omega)))]
theorem nxt_off {ws : List Int} {t f a y v : Int} (ha : 0 ≤ a) (ha1 : a < ws.length) (hne : nB t f y + 2 ≠ a) : nxt (wPut ws a v) t f y = nxt ws t f y := by
  unfold nxt
  rw [wGet_put ha ha1, if_neg hne]
theorem nB_ge {t f y : Int} (hf : 4 ≤ f) (hy : 0 ≤ y) : 3 + 3 * t ≤ nB t f y := by
  unfold nB
  have : 0 ≤ y * (3 + 2 * f) := Int.mul_nonneg hy (by omega)
  omega
/-- A word below the nodes is put, not the head. -/
theorem FreeAre.low {ws : List Int} {s t f : Int} {l : List Int} {a v : Int} (h : FreeAre ws s t f l) (hf : 4 ≤ f) (ha : 0 ≤ a) (ha1 : a < ws.length) (h2 : a ≠ 2) (h3 : a < 3 + 3 * t) : FreeAre (wPut ws a v) s t f l := by
  refine ⟨?_, h.2⟩
  rw [wGet_put ha ha1, if_neg (fun e => h2 e.symm)]
  exact h.1.congr (fun y hy => (nxt_off ha ha1 (by have := nB_ge (t := t) hf (y := y) (by have := h.2.2 y hy; omega); omega)).symm)
/-- A slot that isn't in the list is linked anew. -/
theorem FreeAre.link {ws : List Int} {s t f : Int} {l : List Int} {x v : Int} (h : FreeAre ws s t f l) (ht : 1 ≤ t) (hf : 4 ≤ f) (hx : 0 ≤ x) (h1 : nB t f x + 2 < ws.length) (hn : x ∉ l) : FreeAre (wPut ws (nB t f x + 2) v) s t f l := by
  have hb := nB_ge (t := t) hf hx
  refine ⟨?_, h.2⟩
  rw [wGet_put (by omega) h1, if_neg (by omega)]
  exact h.1.congr (fun y hy => by rw [nxt_put hf (by omega) h1, if_neg (fun e => hn (by rw [← e]; exact hy))])
/-- It becomes the head. -/
theorem FreeAre.push {ws : List Int} {s t f : Int} {l : List Int} {x v : Int} (h : FreeAre ws s t f l) (ht : 1 ≤ t) (hf : 4 ≤ f) (hx : 1 ≤ x ∧ x ≤ s) (h2 : 2 < (ws.length : Int)) (hn : x ∉ l) (hl : nxt ws t f x = wGet ws 2 % 65536) (hv : v % 65536 = x) : FreeAre (wPut ws 2 v) s t f (x :: l) := by
  refine ⟨?_, List.nodup_cons.2 ⟨hn, h.2.1⟩, fun y hy => ?_⟩
  · rw [wGet_put (by omega) h2, if_pos rfl, hv]
    have e : ∀ y, 0 ≤ y → nxt (wPut ws 2 v) t f y = nxt ws t f y := fun y hy => nxt_off (by omega) h2 (by have := nB_ge (t := t) hf hy; omega)
    refine ⟨rfl, ?_⟩
    rw [e x (by omega), hl]
    exact h.1.congr (fun y hy => (e y (by have := h.2.2 y hy; omega)).symm)
  · rcases List.mem_cons.1 hy with rfl | hy
    · exact hx
    · exact h.2.2 y hy

/-- Who is gone. -/
def goneF (ep : Int) (rk : List (Int × Int) × List Int) (x : Int × Bool) : List (Int × Int) × List Int :=
  if x.2 = true then (rk.1, rk.2.eraseP fun y => y == x.1) else (rk.1.eraseP fun y => y.1 == x.1 && ripeB y.2 ep, rk.2)
theorem eraseP_one {α : Type} {p : α → Bool} : ∀ {l : List α}, (∀ x ∈ l, ∀ y ∈ l, p x = true → p y = true → x = y) → l.Nodup → l.eraseP p = l.filter fun x => !p x
  | [], _, _ => rfl
  | x :: l, h, hn => by
    obtain ⟨h1, h2⟩ := List.nodup_cons.1 hn
    by_cases hp : p x = true
    · rw [List.eraseP_cons_of_pos hp, List.filter_cons_of_neg (by simp [hp])]
      refine (List.filter_eq_self.2 fun y hy => ?_).symm
      cases hy2 : p y with
      | false => rfl
      | true => exact absurd (h x (by simp) y (by simp [hy]) hp hy2 ▸ hy) h1
    · rw [List.eraseP_cons_of_neg hp, List.filter_cons_of_pos (by simp [hp]), eraseP_one (fun a ha b hb => h a (by simp [ha]) b (by simp [hb])) h2]
theorem pair_nodup {l : List (Int × Int)} (h : (l.map (·.1)).Nodup) : l.Nodup := (List.pairwise_map.1 h).imp (fun hab e => hab (by rw [e]))
theorem pair_one : ∀ {l : List (Int × Int)}, (l.map (·.1)).Nodup → ∀ x ∈ l, ∀ y ∈ l, x.1 = y.1 → x = y
  | [], _, x, hx, _, _, _ => by cases hx
  | z :: l, h, x, hx, y, hy, e => by
    rw [List.map_cons, List.nodup_cons] at h
    rcases List.mem_cons.1 hx with h3 | h3
    · rcases List.mem_cons.1 hy with h4 | h4
      · rw [h3, h4]
      · exact absurd (by rw [← h3, e]; exact List.mem_map_of_mem (f := Prod.fst) h4) h.1
    · rcases List.mem_cons.1 hy with h4 | h4
      · exact absurd (by rw [← h4, ← e]; exact List.mem_map_of_mem (f := Prod.fst) h3) h.1
      · exact pair_one h.2 x h3 y h4 e
theorem erase_rec {l : List (Int × Int)} {h ep : Int} (hn : (l.map (·.1)).Nodup) : (l.eraseP fun x => x.1 == h && ripeB x.2 ep) = l.filter fun x => !(x.1 == h && ripeB x.2 ep) :=
  eraseP_one (fun x hx y hy a b => pair_one hn x hx y hy (by simp at a b; omega)) (pair_nodup hn)
theorem erase_u {l : List Int} {h : Int} (hn : l.Nodup) : (l.eraseP fun x => x == h) = l.filter fun x => !(x == h) :=
  eraseP_one (fun x hx y hy a b => by simp at a b; omega) hn
theorem filter_nodup {l : List (Int × Int)} {p : Int × Int → Bool} (hn : (l.map (·.1)).Nodup) : ((l.filter p).map (·.1)).Nodup := hn.sublist (List.filter_sublist.map _)
theorem askL_filter (ep : Int) : ∀ (o : List Int) (r : List (Int × Int)), (r.map (·.1)).Nodup → askL ep r o = r.filter fun x => !(decide (x.1 ∈ o) && ripeB x.2 ep)
  | [], r, _ => by
    simp only [askL, List.foldl_nil]
    exact (List.filter_eq_self.2 fun _ _ => by simp).symm
  | h :: o, r, hn => by
    show askL ep (r.eraseP fun x => x.1 == h && ripeB x.2 ep) o = _
    rw [erase_rec hn, askL_filter ep o _ (filter_nodup hn), List.filter_filter]
    congr 1
    funext x
    cases ripeB x.2 ep <;> by_cases h1 : x.1 = h <;> by_cases h2 : x.1 ∈ o <;> simp [h1, h2]
theorem goneF_all (ep : Int) : ∀ (td : List (Int × Bool)) (r : List (Int × Int)) (ks : List Int), (r.map (·.1)).Nodup → ks.Nodup →
    td.foldl (goneF ep) (r, ks) = (r.filter fun x => !(decide ((x.1, false) ∈ td) && ripeB x.2 ep), ks.filter fun y => !decide ((y, true) ∈ td))
  | [], r, ks, _, _ => by
    rw [List.foldl_nil, List.filter_eq_self.2 (fun _ _ => by simp), List.filter_eq_self.2 (fun _ _ => by simp)]
  | (h, b) :: td, r, ks, hr, hk => by
    rw [List.foldl_cons]
    cases b with
    | true =>
      have e : goneF ep (r, ks) (h, true) = (r, ks.filter fun x => !(x == h)) := by unfold goneF; rw [if_pos rfl, erase_u hk]
      rw [e, goneF_all ep td _ _ hr (hk.sublist List.filter_sublist), List.filter_filter]
      refine Prod.ext ?_ ?_
      · show r.filter _ = r.filter _
        congr 1
        funext x
        by_cases h2 : (x.1, false) ∈ td <;> simp [h2]
      · show ks.filter _ = ks.filter _
        congr 1
        funext y
        by_cases h1 : y = h <;> by_cases h2 : (y, true) ∈ td <;> simp [h1, h2]
    | false =>
      have e : goneF ep (r, ks) (h, false) = (r.filter (fun x => !(x.1 == h && ripeB x.2 ep)), ks) := by unfold goneF; rw [if_neg (by simp), erase_rec hr]
      rw [e, goneF_all ep td _ _ (filter_nodup hr) hk, List.filter_filter]
      refine Prod.ext ?_ ?_
      · show r.filter _ = r.filter _
        congr 1
        funext x
        cases ripeB x.2 ep <;> by_cases h1 : x.1 = h <;> by_cases h2 : (x.1, false) ∈ td <;> simp [h1, h2]
      · show ks.filter _ = ks.filter _
        congr 1
        funext y
        by_cases h2 : (y, true) ∈ td <;> simp [h2]
end Go.Proofs.YtokcbipmocpllaaDoor

/-
  Which slots are free behind a sweep, and which lie in its lists, in plain Lean.
-/
namespace Go.Proofs.YtokcbipmocpllaaDoor
open Go.RowKit

def hS (a : Int) : Int := hmk 5 a
theorem hS_eq {a : Int} (h : 2 ≤ a ∧ a ≤ 1000) : hS a = 327680 + a := by unfold hS hmk; rw [if_neg (by omega)]; omega
theorem hS_mod {a : Int} (h : 2 ≤ a ∧ a ≤ 1000) : hS a % 65536 = a := by rw [hS_eq h]; omega
theorem hS_w64 (a : Int) : W64 (hS a) := hmk_bound _ _
/-- What is kept, and what is in limbo, of the first i slots. -/
def kL (S : List Int) (kp i : Nat) : List Int := ((S.take i).take kp).map hS
def rL (S E : List Int) (kp i : Nat) : List (Int × Int) := (((S.zip E).take i).drop kp).map fun x => (hS x.1, x.2)
theorem take_snocA {α : Type} (l : List α) (k : Nat) (hk : k < l.length) : l.take (k + 1) = l.take k ++ [l[k]] := by rw [List.take_add_one, List.getElem?_eq_getElem hk]; rfl
theorem kL_lo {S : List Int} {kp i : Nat} (hi : i < S.length) (h : i < kp) : kL S kp (i + 1) = kL S kp i ++ [hS S[i]] := by
  unfold kL
  rw [List.take_take, List.take_take, Nat.min_eq_right (by omega), Nat.min_eq_right (by omega), take_snocA S i hi, List.map_append]
  rfl
theorem kL_hi {S : List Int} {kp i : Nat} (h : kp ≤ i) : kL S kp (i + 1) = kL S kp i := by
  unfold kL
  rw [List.take_take, List.take_take, Nat.min_eq_left (by omega), Nat.min_eq_left (by omega)]
theorem rL_lo {S E : List Int} {kp i : Nat} (h : i < kp) : rL S E kp (i + 1) = rL S E kp i := by
  unfold rL
  rw [List.drop_eq_nil_of_le (by rw [List.length_take]; omega), List.drop_eq_nil_of_le (by rw [List.length_take]; omega)]
theorem rL_hi {S E : List Int} {kp i : Nat} (hi : i < S.length) (hE : S.length ≤ E.length) (h : kp ≤ i) : rL S E kp (i + 1) = rL S E kp i ++ [(hS S[i], E[i])] := by
  unfold rL
  have hz : i < (S.zip E).length := by rw [List.length_zip]; omega
  rw [take_snocA _ i hz, List.drop_append, List.map_append, List.length_take, show kp - min i (S.zip E).length = 0 by omega, List.drop_zero, List.getElem_zip]
  rfl
/-- The hazards' words. -/
def hzW (hz : List Int) (n : Nat) : List Int := (hz.take n).map (hmk 5) ++ List.replicate (n - hz.length) 0
theorem hzW_len (hz : List Int) (n : Nat) : (hzW hz n).length = n := by
  unfold hzW
  rw [List.length_append, List.length_map, List.length_take, List.length_replicate]
  omega
theorem hzW_at (hz : List Int) (n i : Nat) (hi : i < n) : (hzW hz n)[i]'(by rw [hzW_len]; exact hi) = if h : i < hz.length then hmk 5 hz[i] else 0 := by
  unfold hzW
  by_cases h : i < hz.length
  · rw [List.getElem_append_left (by rw [List.length_map, List.length_take]; omega), dif_pos h, List.getElem_map, List.getElem_take]
  · rw [List.getElem_append_right (by rw [List.length_map, List.length_take]; omega), dif_neg h, List.getElem_replicate]
theorem hzW_w64 (hz : List Int) (n : Nat) : ∀ x ∈ hzW hz n, W64 x := fun x hx => by
  unfold hzW at hx
  rcases List.mem_append.1 hx with h | h
  · obtain ⟨y, _, rfl⟩ := List.mem_map.1 h
    exact hmk_bound _ _
  · rw [List.mem_replicate] at h
    rw [h.2]
    exact ⟨by decide, by decide⟩
theorem cov_eq (hz : List Int) (n : Nat) {a : Int} (h : 2 ≤ a ∧ a ≤ 1000) : coverB (hzW hz n) (hS a) = decide (a ∈ hz.take n) := by
  have hne : hS a ≠ 0 := by rw [hS_eq h]; omega
  unfold coverB hzW
  have h1 : (hS a != 0) = true := by simp [hne]
  rw [h1, Bool.and_true]
  congr 1
  rw [List.mem_append, List.mem_map, List.mem_replicate]
  apply propext
  constructor
  · rintro (⟨z, hz1, hz2⟩ | ⟨_, h2⟩)
    · have : z = a := by
        rw [hS_eq h] at hz2
        unfold hmk at hz2
        split at hz2 <;> omega
      rw [← this]; exact hz1
    · exact absurd h2 hne
  · exact fun h2 => .inl ⟨a, h2, rfl⟩
/-- The slots from k on that are not in a list. -/
def upN (all : List Int) : Nat → Int → List Int
  | 0, _ => []
  | d + 1, k => if k ∈ all then upN all d (k + 1) else k :: upN all d (k + 1)
theorem upN_mem (all : List Int) : ∀ (d : Nat) (k y : Int), y ∈ upN all d k ↔ k ≤ y ∧ y < k + d ∧ y ∉ all
  | 0, k, y => by simp [upN]; omega
  | d + 1, k, y => by
    unfold upN
    by_cases h : k ∈ all
    · rw [if_pos h, upN_mem all d]
      constructor
      · rintro ⟨h1, h2, h3⟩; exact ⟨by omega, by omega, h3⟩
      · rintro ⟨h1, h2, h3⟩
        have : y ≠ k := fun e => h3 (e ▸ h)
        exact ⟨by omega, by omega, h3⟩
    · rw [if_neg h, List.mem_cons, upN_mem all d]
      constructor
      · rintro (rfl | ⟨h1, h2, h3⟩)
        · exact ⟨by omega, by omega, h⟩
        · exact ⟨by omega, by omega, h3⟩
      · rintro ⟨h1, h2, h3⟩
        by_cases e : y = k
        · exact .inl e
        · exact .inr ⟨by omega, by omega, h3⟩
theorem upN_nodup (all : List Int) : ∀ (d : Nat) (k : Int), (upN all d k).Nodup
  | 0, _ => List.nodup_nil
  | d + 1, k => by
    unfold upN
    split
    · exact upN_nodup all d _
    · exact List.nodup_cons.2 ⟨fun h => by have := (upN_mem all d (k + 1) k).1 h; omega, upN_nodup all d _⟩
theorem upN_cons (a : Int) (all : List Int) (ha : a ∉ all) : ∀ (d : Nat) (k : Int), k ≤ a → a < k + d → (upN (a :: all) d k).length + 1 = (upN all d k).length
  | 0, k, h1, h2 => by omega
  | d + 1, k, h1, h2 => by
    have hsame : ∀ (d : Nat) (k : Int), a < k → upN (a :: all) d k = upN all d k := by
      intro d
      induction d with
      | zero => intro k _; rfl
      | succ d ih =>
        intro k hk
        unfold upN
        rw [ih (k + 1) (by omega)]
        by_cases h : k ∈ all
        · rw [if_pos (by simp [h]), if_pos h]
        · rw [if_neg (by simp [h]; omega), if_neg h]
    unfold upN
    by_cases e : k = a
    · subst e
      rw [if_pos (by simp), if_neg ha, hsame d _ (by omega), List.length_cons]
    · have ih := upN_cons a all ha d (k + 1) (by omega) (by omega)
      by_cases h : k ∈ all
      · rw [if_pos (by simp [h]), if_pos h, ih]
      · rw [if_neg (by simp [h]; omega), if_neg h, List.length_cons, List.length_cons, ih]
theorem upN_len (d : Nat) (k : Int) : ∀ (all : List Int), all.Nodup → (∀ a ∈ all, k ≤ a ∧ a < k + d) → (upN all d k).length + all.length = d
  | [], _, _ => by
    have : ∀ (d : Nat) (k : Int), (upN [] d k).length = d := by
      intro d
      induction d with
      | zero => intro k; rfl
      | succ d ih => intro k; unfold upN; rw [if_neg (by simp), List.length_cons, ih]
    rw [this]; rfl
  | a :: all, hn, h => by
    obtain ⟨h1, h2⟩ := List.nodup_cons.1 hn
    have := upN_cons a all h1 d k (h a (by simp)).1 (h a (by simp)).2
    have := upN_len d k all h2 (fun b hb => h b (by simp [hb]))
    rw [List.length_cons]
    omega

theorem nodup_inj {l : List Int} (h : l.Nodup) {i j : Nat} (hi : i < l.length) (hj : j < l.length) (e : l[i] = l[j]) : i = j := by
  have hp := List.pairwise_iff_getElem.1 h
  rcases Nat.lt_trichotomy i j with h1 | h1 | h1
  · exact absurd e (hp i j hi hj h1)
  · exact h1
  · exact absurd e.symm (hp j i hj hi h1)
section
variable {S E hz : List Int} {kp n : Nat} {ep s : Int}
theorem kr_all (hE : S.length ≤ E.length) : kL S kp S.length ++ (rL S E kp S.length).map (·.1) = S.map hS := by
  have e1 : kL S kp S.length = (S.map hS).take kp := by unfold kL; rw [List.take_of_length_le (Nat.le_refl _), List.map_take]
  have e2 : (rL S E kp S.length).map (·.1) = (S.map hS).drop kp := by
    unfold rL
    rw [List.take_of_length_le (by rw [List.length_zip]; omega), List.map_map, ← List.map_drop]
    have : (S.zip E).map (·.1) = S := by
      rw [List.map_fst_zip (by omega)]
    conv => rhs; rw [← this]
    rw [← List.map_drop, List.map_map]
    rfl
  rw [e1, e2, List.take_append_drop]
theorem askTd_keys (r : List (Int × Int)) (ks hz : List Int) (ep : Int) : ((askTd r ks hz ep).map (·.1)).Sublist (ks ++ r.map (·.1)) := by
  unfold askTd askBare askFree askRipe
  rw [List.map_append, List.map_map, List.map_map]
  have e : ∀ (l : List Int) (b : Bool), l.map ((fun x : Int × Bool => x.1) ∘ fun x => (x, b)) = l := fun l b => by
    conv => rhs; rw [← List.map_id l]
    rfl
  rw [e, e]
  exact List.filter_sublist.append (List.filter_sublist.trans (List.filter_sublist.map _))
theorem hS_slots (h : ∀ a ∈ S, 2 ≤ a ∧ a ≤ 1000) : (S.map hS).map (· % 65536) = S := by
  rw [List.map_map]
  conv => rhs; rw [← List.map_id S]
  exact List.map_congr_left fun a ha => hS_mod (h a ha)
theorem hS_nodup (hn : S.Nodup) (h : ∀ a ∈ S, 2 ≤ a ∧ a ≤ 1000) : (S.map hS).Nodup := by
  have e := hS_slots h
  rw [← e] at hn
  exact (List.pairwise_map.1 hn).imp fun hab e => hab (by rw [e])
theorem td_slots (hE : S.length ≤ E.length) (h : ∀ a ∈ S, 2 ≤ a ∧ a ≤ 1000) : ((askTd (rL S E kp S.length) (kL S kp S.length) hz ep).map fun x => x.1 % 65536).Sublist S := by
  have h1 := (askTd_keys (rL S E kp S.length) (kL S kp S.length) hz ep).map (· % 65536)
  rw [kr_all hE, hS_slots h, List.map_map] at h1
  exact h1
theorem mem_kL {i : Nat} (hn : S.Nodup) (h : ∀ a ∈ S, 2 ≤ a ∧ a ≤ 1000) (hi : i < S.length) : hS S[i] ∈ kL S kp S.length ↔ i < kp := by
  unfold kL
  rw [List.take_of_length_le (Nat.le_refl _), List.mem_map]
  constructor
  · rintro ⟨b, hb, e⟩
    obtain ⟨j, hj, rfl⟩ := List.getElem_of_mem hb
    rw [List.length_take] at hj
    rw [List.getElem_take] at e
    have e2 : S[j] = S[i] := by rw [← hS_mod (h S[j] (List.getElem_mem _)), e, hS_mod (h S[i] (List.getElem_mem _))]
    have := nodup_inj hn _ _ e2
    omega
  · intro hk
    exact ⟨S[i], by rw [List.mem_take_iff_getElem]; exact ⟨i, by omega, rfl⟩, rfl⟩
theorem mem_rL {i : Nat} {x : Int × Int} (hE : S.length ≤ E.length) (hn : S.Nodup) (h : ∀ a ∈ S, 2 ≤ a ∧ a ≤ 1000) (hi : i < S.length) : (x ∈ rL S E kp S.length ∧ x.1 = hS S[i]) ↔ kp ≤ i ∧ x = (hS S[i], E[i]) := by
  unfold rL
  rw [List.take_of_length_le (by rw [List.length_zip]; omega), List.mem_map]
  constructor
  · rintro ⟨⟨y, hy, rfl⟩, e⟩
    obtain ⟨j, hj, rfl⟩ := List.getElem_of_mem hy
    rw [List.length_drop, List.length_zip] at hj
    rw [List.getElem_drop, List.getElem_zip] at e ⊢
    have e2 : S[kp + j] = S[i] := by
      have e' : hS S[kp + j] = hS S[i] := e
      rw [← hS_mod (h S[kp + j] (List.getElem_mem _)), e', hS_mod (h S[i] (List.getElem_mem _))]
    have := nodup_inj hn _ _ e2
    subst this
    exact ⟨by omega, rfl⟩
  · rintro ⟨hk, rfl⟩
    refine ⟨⟨(S[i], E[i]), ?_, rfl⟩, rfl⟩
    rw [List.mem_drop_iff_getElem]
    exact ⟨i - kp, by rw [List.length_zip]; omega, by rw [List.getElem_zip]; simp only [show kp + (i - kp) = i by omega]⟩
theorem mem_ripe {i : Nat} (hE : S.length ≤ E.length) (hn : S.Nodup) (h : ∀ a ∈ S, 2 ≤ a ∧ a ≤ 1000) (hi : i < S.length) : hS S[i] ∈ askRipe (rL S E kp S.length) ep ↔ kp ≤ i ∧ ripeB E[i] ep = true := by
  unfold askRipe
  rw [List.mem_map]
  constructor
  · rintro ⟨x, hx, e⟩
    obtain ⟨h1, h2⟩ := List.mem_filter.1 hx
    obtain ⟨h3, rfl⟩ := (mem_rL hE hn h hi).1 ⟨h1, e⟩
    exact ⟨h3, h2⟩
  · rintro ⟨hk, hr⟩
    exact ⟨(hS S[i], E[i]), List.mem_filter.2 ⟨((mem_rL hE hn h hi).2 ⟨hk, rfl⟩).1, hr⟩, rfl⟩
theorem td_true (r : List (Int × Int)) (ks hz : List Int) (ep y : Int) : (y, true) ∈ askTd r ks hz ep ↔ y ∈ ks ∧ coverB hz y = false := by
  unfold askTd askBare askFree
  simp [List.mem_filter]
theorem td_false (r : List (Int × Int)) (ks hz : List Int) (ep y : Int) : (y, false) ∈ askTd r ks hz ep ↔ y ∈ askRipe r ep ∧ coverB hz y = false := by
  unfold askTd askBare askFree
  simp [List.mem_filter]
/-- The lists behind the sweep. -/
def swEnd (r : List (Int × Int)) (ks hz : List Int) (ep : Int) : List (Int × Int) × List Int := (askTd r ks hz ep).foldl (goneF ep) (askL ep r (askOver r hz ep), ks ++ askOver r hz ep)
theorem swEnd_eq (r : List (Int × Int)) (ks hz : List Int) (ep : Int) (hn : (ks ++ r.map (·.1)).Nodup) : swEnd r ks hz ep = (r.filter fun x => !ripeB x.2 ep, (ks.filter fun y => coverB hz y) ++ askOver r hz ep) := by
  obtain ⟨n1, n2, n3⟩ := List.nodup_append.1 hn
  have hos : (askOver r hz ep).Sublist (r.map (·.1)) := by
    unfold askOver askRipe
    exact List.filter_sublist.trans (List.filter_sublist.map _)
  have hk : (ks ++ askOver r hz ep).Nodup := hn.sublist ((List.Sublist.refl ks).append hos)
  unfold swEnd
  rw [askL_filter ep _ r n2, goneF_all ep _ _ _ (filter_nodup n2) hk, List.filter_filter, List.filter_append]
  refine Prod.ext ?_ ?_
  · show r.filter _ = r.filter _
    apply List.filter_congr
    intro x hx
    cases hr : ripeB x.2 ep with
    | false => simp
    | true =>
      have hm : x.1 ∈ askRipe r ep := List.mem_map.2 ⟨x, List.mem_filter.2 ⟨hx, hr⟩, rfl⟩
      cases hc : coverB hz x.1 with
      | true =>
        have : x.1 ∈ askOver r hz ep := List.mem_filter.2 ⟨hm, hc⟩
        simp [this]
      | false =>
        have := (td_false r ks hz ep x.1).2 ⟨hm, hc⟩
        simp [this]
  · show ks.filter _ ++ (askOver r hz ep).filter _ = _
    congr 1
    · apply List.filter_congr
      intro y hy
      cases hc : coverB hz y with
      | true =>
        have : (y, true) ∉ askTd r ks hz ep := fun h => by have := ((td_true r ks hz ep y).1 h).2; rw [hc] at this; cases this
        simp [this]
      | false =>
        have := (td_true r ks hz ep y).2 ⟨hy, hc⟩
        simp [this]
    · apply List.filter_eq_self.2
      intro y hy
      have hc : coverB hz y = true := (List.mem_filter.1 hy).2
      have : (y, true) ∉ askTd r ks hz ep := fun h => by have := ((td_true r ks hz ep y).1 h).2; rw [hc] at this; cases this
      simp [this]
theorem filter_two {α : Type} (p : α → Bool) : ∀ (l : List α), (l.filter p).length + (l.filter fun x => !p x).length = l.length
  | [] => rfl
  | x :: l => by
    have ih := filter_two p l
    cases hp : p x with
    | true => rw [List.filter_cons_of_pos hp, List.filter_cons_of_neg (by simp [hp]), List.length_cons, List.length_cons]; omega
    | false => rw [List.filter_cons_of_neg (by simp [hp]), List.filter_cons_of_pos (by simp [hp]), List.length_cons, List.length_cons]; omega
theorem swEnd_len (r : List (Int × Int)) (ks hz : List Int) (ep : Int) (hn : (ks ++ r.map (·.1)).Nodup) : (askTd r ks hz ep).length + ((swEnd r ks hz ep).1.length + (swEnd r ks hz ep).2.length) = ks.length + r.length := by
  rw [swEnd_eq r ks hz ep hn]
  unfold askTd askBare askFree askOver
  simp only [List.length_append, List.length_map]
  have h1 : (ks.filter fun y => coverB hz y).length + (ks.filter fun x => !coverB hz x).length = ks.length := filter_two _ ks
  have h2 : ((askRipe r ep).filter (coverB hz)).length + ((askRipe r ep).filter fun x => !coverB hz x).length = (askRipe r ep).length := filter_two _ _
  have h3 : (r.filter fun x => ripeB x.2 ep).length + (r.filter fun x => !ripeB x.2 ep).length = r.length := filter_two _ r
  have h4 : (askRipe r ep).length = (r.filter fun x => ripeB x.2 ep).length := by unfold askRipe; rw [List.length_map]
  omega
/-- The free slots, and those of the lists. -/
def frEnd (S E hz : List Int) (kp : Nat) (ep s : Int) : List Int := ((askTd (rL S E kp S.length) (kL S kp S.length) hz ep).map fun x => x.1 % 65536).reverse ++ upN S (s - 1).toNat 2
def nowEnd (S E hz : List Int) (kp : Nat) (ep : Int) : List Int := ((swEnd (rL S E kp S.length) (kL S kp S.length) hz ep).1.map (·.1) ++ (swEnd (rL S E kp S.length) (kL S kp S.length) hz ep).2)
def goB (E : List Int) (kp : Nat) (ep : Int) (i : Nat) : Bool := decide (i < kp) || ripeB (E.getD i 0) ep
theorem mem_free {i : Nat} (hE : S.length ≤ E.length) (hn : S.Nodup) (h : ∀ a ∈ S, 2 ≤ a ∧ a ≤ 1000) (hi : i < S.length) : decide (S[i] ∈ frEnd S E (hzW hz n) kp ep s) = (goB E kp ep i && !decide (S[i] ∈ hz.take n)) := by
  have ha := h S[i] (List.getElem_mem _)
  have hc := cov_eq hz n ha
  have hee : E.getD i 0 = E[i] := by rw [List.getD_eq_getElem?_getD, List.getElem?_eq_getElem (by omega)]; rfl
  have key : S[i] ∈ frEnd S E (hzW hz n) kp ep s ↔ (i < kp ∨ (kp ≤ i ∧ ripeB E[i] ep = true)) ∧ coverB (hzW hz n) (hS S[i]) = false := by
    unfold frEnd
    rw [List.mem_append, List.mem_reverse, upN_mem, List.mem_map]
    constructor
    · rintro (⟨⟨y, b⟩, hx, e⟩ | h9)
      · have hk : y ∈ S.map hS := by
          rw [← kr_all (kp := kp) hE]
          exact (askTd_keys _ _ (hzW hz n) ep).subset (List.mem_map.2 ⟨(y, b), hx, rfl⟩)
        obtain ⟨a, ha2, rfl⟩ := List.mem_map.1 hk
        have e' : hS a % 65536 = S[i] := e
        rw [hS_mod (h a ha2)] at e'
        subst e'
        cases b with
        | true =>
          obtain ⟨h1, h2⟩ := (td_true _ _ _ _ _).1 hx
          exact ⟨.inl ((mem_kL hn h hi).1 h1), h2⟩
        | false =>
          obtain ⟨h1, h2⟩ := (td_false _ _ _ _ _).1 hx
          exact ⟨.inr ((mem_ripe hE hn h hi).1 h1), h2⟩
      · exact absurd (List.getElem_mem _) h9.2.2
    · rintro ⟨h1 | h1, h2⟩
      · exact .inl ⟨(hS S[i], true), (td_true _ _ _ _ _).2 ⟨(mem_kL hn h hi).2 h1, h2⟩, hS_mod ha⟩
      · exact .inl ⟨(hS S[i], false), (td_false _ _ _ _ _).2 ⟨(mem_ripe hE hn h hi).2 h1, h2⟩, hS_mod ha⟩
  rw [hc] at key
  unfold goB
  rw [hee]
  by_cases h1 : i < kp <;> by_cases h2 : S[i] ∈ hz.take n <;> cases h3 : ripeB E[i] ep <;> simp_all <;> omega
theorem key_end {y : Int} (hE : S.length ≤ E.length) (hy : y ∈ nowEnd S E hz kp ep) (hnd : (kL S kp S.length ++ (rL S E kp S.length).map (·.1)).Nodup) : y ∈ S.map hS := by
  rw [← kr_all (kp := kp) hE]
  unfold nowEnd at hy
  rw [swEnd_eq _ _ _ _ hnd] at hy
  simp only [List.mem_append] at hy ⊢
  rcases hy with h1 | h1 | h1
  · obtain ⟨x, hx, rfl⟩ := List.mem_map.1 h1
    exact .inr (List.mem_map.2 ⟨x, (List.mem_filter.1 hx).1, rfl⟩)
  · exact .inl (List.mem_filter.1 h1).1
  · obtain ⟨x, hx, rfl⟩ := List.mem_map.1 (List.mem_filter.1 h1).1
    exact .inr (List.mem_map.2 ⟨x, (List.mem_filter.1 hx).1, rfl⟩)
theorem mem_kept {i : Nat} (hE : S.length ≤ E.length) (hn : S.Nodup) (h : ∀ a ∈ S, 2 ≤ a ∧ a ≤ 1000) (hi : i < S.length) : hS S[i] ∈ (swEnd (rL S E kp S.length) (kL S kp S.length) (hzW hz n) ep).2 ↔ goB E kp ep i = true ∧ S[i] ∈ hz.take n := by
  have ha := h S[i] (List.getElem_mem _)
  have hc := cov_eq hz n ha
  have hee : E.getD i 0 = E[i] := by rw [List.getD_eq_getElem?_getD, List.getElem?_eq_getElem (by omega)]; rfl
  have hnd : (kL S kp S.length ++ (rL S E kp S.length).map (·.1)).Nodup := by rw [kr_all hE]; exact hS_nodup hn h
  rw [swEnd_eq _ _ _ _ hnd]
  simp only [List.mem_append, List.mem_filter, askOver, mem_kL hn h hi, mem_ripe hE hn h hi, hc, goB, hee]
  by_cases h1 : i < kp <;> by_cases h2 : S[i] ∈ hz.take n <;> cases h3 : ripeB E[i] ep <;> simp_all <;> omega
theorem mem_now {i : Nat} (hE : S.length ≤ E.length) (hn : S.Nodup) (h : ∀ a ∈ S, 2 ≤ a ∧ a ≤ 1000) (hi : i < S.length) : decide (S[i] ∈ slL (nowEnd S E (hzW hz n) kp ep)) = !(goB E kp ep i && !decide (S[i] ∈ hz.take n)) := by
  have ha := h S[i] (List.getElem_mem _)
  have hee : E.getD i 0 = E[i] := by rw [List.getD_eq_getElem?_getD, List.getElem?_eq_getElem (by omega)]; rfl
  have hnd : (kL S kp S.length ++ (rL S E kp S.length).map (·.1)).Nodup := by rw [kr_all hE]; exact hS_nodup hn h
  have k1 : S[i] ∈ slL (nowEnd S E (hzW hz n) kp ep) ↔ hS S[i] ∈ nowEnd S E (hzW hz n) kp ep := by
    unfold slL
    rw [List.mem_map]
    constructor
    · rintro ⟨y, hy, e⟩
      obtain ⟨a, ha2, rfl⟩ := List.mem_map.1 (key_end hE hy hnd)
      rw [hS_mod (h a ha2)] at e
      rw [← e]; exact hy
    · exact fun hy => ⟨_, hy, hS_mod ha⟩
  have k2 : hS S[i] ∈ nowEnd S E (hzW hz n) kp ep ↔ (kp ≤ i ∧ ripeB E[i] ep = false) ∨ (goB E kp ep i = true ∧ S[i] ∈ hz.take n) := by
    unfold nowEnd
    rw [List.mem_append, mem_kept hE hn h hi]
    apply or_congr _ Iff.rfl
    rw [swEnd_eq _ _ _ _ hnd, List.mem_map]
    constructor
    · rintro ⟨x, hx, e⟩
      obtain ⟨h1, h2⟩ := List.mem_filter.1 hx
      obtain ⟨h3, rfl⟩ := (mem_rL hE hn h hi).1 ⟨h1, e⟩
      exact ⟨h3, by simpa using h2⟩
    · rintro ⟨h1, h2⟩
      exact ⟨(hS S[i], E[i]), List.mem_filter.2 ⟨((mem_rL hE hn h hi).2 ⟨h1, rfl⟩).1, by simpa using h2⟩, rfl⟩
  have k3 := k1.trans k2
  unfold goB at k3 ⊢
  rw [hee] at k3 ⊢
  by_cases h1 : i < kp <;> by_cases h2 : S[i] ∈ hz.take n <;> cases h3 : ripeB E[i] ep <;> simp_all <;> omega
theorem end_len (hE : S.length ≤ E.length) (hn : S.Nodup) (h : ∀ a ∈ S, 2 ≤ a ∧ a ≤ s) (hs : 1 ≤ s ∧ s ≤ 1000) : ((frEnd S E hz kp ep s).length : Int) + (nowEnd S E hz kp ep).length = s - 1 := by
  have h2 : ∀ a ∈ S, 2 ≤ a ∧ a ≤ 1000 := fun a ha => by have := h a ha; omega
  have hnd : (kL S kp S.length ++ (rL S E kp S.length).map (·.1)).Nodup := by rw [kr_all hE]; exact hS_nodup hn h2
  have h3 := swEnd_len (rL S E kp S.length) (kL S kp S.length) hz ep hnd
  have h4 := congrArg List.length (kr_all (kp := kp) hE)
  have h5 := upN_len (s - 1).toNat 2 S hn (fun a ha => by have := h a ha; omega)
  unfold frEnd nowEnd
  simp only [List.length_append, List.length_map, List.length_reverse] at h3 h4 h5 ⊢
  omega
end
end Go.Proofs.YtokcbipmocpllaaDoor

/-
  Package sweep: Took where a slot is put on the list.
-/
namespace Go.Proofs.YtokcbipmocpllaaDoor
open Go.RowKit

theorem Tr.second [Inhabited GhT] {w : World} {e : TypeId} {s n : Nat} {ad : Addr} {c : Nat} {u v : Value} {xs : List Value} (h : Tr w e s (.slice (some ad) n c) n (u :: v :: xs)) : w.cell? ⟨ad.block, ad.off + 1, none⟩ = some v := by
  have := h.holds ad rfl 1 v (by simp)
  simpa [Addr.add] using this
set_option linter.unusedSimpArgs false in
set_option maxRecDepth 100000 in
set_option maxHeartbeats 4000000 in
theorem stook_3a [Inhabited GhT] (s t f l p ep : Int) (r : List (Int × Int)) (ks hz : List Int) (td : List (Int × Bool)) (q0 q1 q2 q3 q4 sl hd tr : Int) (fr : List Int) (ju : Int) (g : Int) (v : Value) (w : World) (hv : SwV w s t f l p 3 ep r ks hz td q0 q1 q2 q3 q4 1 sl hd tr fr ju v) :
    Calls Tryd.prog 20 #[v, .int .u64 g] w fun e w' => (∃ v', e = .returned v' ∧ SwV w' s t f l p 3 ep r ks hz td q0 q1 q2 q3 q4 2 sl g tr fr 0 v') ∧ Below w.heap.size w w' := by
  obtain ⟨A1, c1, A2, c2, A3, c3, A4, c4, A5, c5, rfl, t1, t2, t3, t4, t5⟩ := hv
  have B0 := ((Below.refl w.heap.size w).alloc (Nat.le_refl _) (.cells #[.slice A1 r.length c1, .slice A2 ks.length c2, .int .i64 s, .int .i64 t, .int .i64 f, .int .i64 l, .int .i64 p, .int .i64 3, .int .u64 ep, .slice A3 hz.length c3, .slice A4 td.length c4, .int .i64 q0, .int .i64 q1, .int .i64 q2, .int .i64 q3, .int .i64 q4, .int .i64 1, .int .i64 sl, .int .u64 hd, .int .i64 tr, .slice A5 fr.length c5, .int .i64 0] 51)).alloc (by simp only [World.size_alloc]; omega) (.cells #[.slice none 0 0, .slice none 0 0, .int .i64 0, .int .i64 0, .int .i64 0, .int .i64 0, .int .i64 0, .int .i64 0, .int .u64 0, .slice none 0 0, .slice none 0 0, .int .i64 0, .int .i64 0, .int .i64 0, .int .i64 0, .int .i64 0, .int .i64 0, .int .i64 0, .int .u64 0, .int .i64 0, .slice none 0 0, .int .i64 0] 51)
  have bs := (Blk.new w 51 #[.slice A1 r.length c1, .slice A2 ks.length c2, .int .i64 s, .int .i64 t, .int .i64 f, .int .i64 l, .int .i64 p, .int .i64 3, .int .u64 ep, .slice A3 hz.length c3, .slice A4 td.length c4, .int .i64 q0, .int .i64 q1, .int .i64 q2, .int .i64 q3, .int .i64 q4, .int .i64 1, .int .i64 sl, .int .u64 hd, .int .i64 tr, .slice A5 fr.length c5, .int .i64 0]).alloc (.cells #[.slice none 0 0, .slice none 0 0, .int .i64 0, .int .i64 0, .int .i64 0, .int .i64 0, .int .i64 0, .int .i64 0, .int .u64 0, .slice none 0 0, .slice none 0 0, .int .i64 0, .int .i64 0, .int .i64 0, .int .i64 0, .int .i64 0, .int .i64 0, .int .i64 0, .int .u64 0, .int .i64 0, .slice none 0 0, .int .i64 0] 51)
  have bo := Blk.new (w.alloc (.cells #[.slice A1 r.length c1, .slice A2 ks.length c2, .int .i64 s, .int .i64 t, .int .i64 f, .int .i64 l, .int .i64 p, .int .i64 3, .int .u64 ep, .slice A3 hz.length c3, .slice A4 td.length c4, .int .i64 q0, .int .i64 q1, .int .i64 q2, .int .i64 q3, .int .i64 q4, .int .i64 1, .int .i64 sl, .int .u64 hd, .int .i64 tr, .slice A5 fr.length c5, .int .i64 0] 51)) 51 #[.slice none 0 0, .slice none 0 0, .int .i64 0, .int .i64 0, .int .i64 0, .int .i64 0, .int .i64 0, .int .i64 0, .int .u64 0, .slice none 0 0, .slice none 0 0, .int .i64 0, .int .i64 0, .int .i64 0, .int .i64 0, .int .i64 0, .int .i64 0, .int .i64 0, .int .u64 0, .int .i64 0, .slice none 0 0, .int .i64 0]
  simp only [World.size_alloc] at bo
  replace t1 := (t1.alloc (.cells #[.slice A1 r.length c1, .slice A2 ks.length c2, .int .i64 s, .int .i64 t, .int .i64 f, .int .i64 l, .int .i64 p, .int .i64 3, .int .u64 ep, .slice A3 hz.length c3, .slice A4 td.length c4, .int .i64 q0, .int .i64 q1, .int .i64 q2, .int .i64 q3, .int .i64 q4, .int .i64 1, .int .i64 sl, .int .u64 hd, .int .i64 tr, .slice A5 fr.length c5, .int .i64 0] 51)).alloc (.cells #[.slice none 0 0, .slice none 0 0, .int .i64 0, .int .i64 0, .int .i64 0, .int .i64 0, .int .i64 0, .int .i64 0, .int .u64 0, .slice none 0 0, .slice none 0 0, .int .i64 0, .int .i64 0, .int .i64 0, .int .i64 0, .int .i64 0, .int .i64 0, .int .i64 0, .int .u64 0, .int .i64 0, .slice none 0 0, .int .i64 0] 51)
  replace t2 := (t2.alloc (.cells #[.slice A1 r.length c1, .slice A2 ks.length c2, .int .i64 s, .int .i64 t, .int .i64 f, .int .i64 l, .int .i64 p, .int .i64 3, .int .u64 ep, .slice A3 hz.length c3, .slice A4 td.length c4, .int .i64 q0, .int .i64 q1, .int .i64 q2, .int .i64 q3, .int .i64 q4, .int .i64 1, .int .i64 sl, .int .u64 hd, .int .i64 tr, .slice A5 fr.length c5, .int .i64 0] 51)).alloc (.cells #[.slice none 0 0, .slice none 0 0, .int .i64 0, .int .i64 0, .int .i64 0, .int .i64 0, .int .i64 0, .int .i64 0, .int .u64 0, .slice none 0 0, .slice none 0 0, .int .i64 0, .int .i64 0, .int .i64 0, .int .i64 0, .int .i64 0, .int .i64 0, .int .i64 0, .int .u64 0, .int .i64 0, .slice none 0 0, .int .i64 0] 51)
  replace t3 := (t3.alloc (.cells #[.slice A1 r.length c1, .slice A2 ks.length c2, .int .i64 s, .int .i64 t, .int .i64 f, .int .i64 l, .int .i64 p, .int .i64 3, .int .u64 ep, .slice A3 hz.length c3, .slice A4 td.length c4, .int .i64 q0, .int .i64 q1, .int .i64 q2, .int .i64 q3, .int .i64 q4, .int .i64 1, .int .i64 sl, .int .u64 hd, .int .i64 tr, .slice A5 fr.length c5, .int .i64 0] 51)).alloc (.cells #[.slice none 0 0, .slice none 0 0, .int .i64 0, .int .i64 0, .int .i64 0, .int .i64 0, .int .i64 0, .int .i64 0, .int .u64 0, .slice none 0 0, .slice none 0 0, .int .i64 0, .int .i64 0, .int .i64 0, .int .i64 0, .int .i64 0, .int .i64 0, .int .i64 0, .int .u64 0, .int .i64 0, .slice none 0 0, .int .i64 0] 51)
  replace t4 := (t4.alloc (.cells #[.slice A1 r.length c1, .slice A2 ks.length c2, .int .i64 s, .int .i64 t, .int .i64 f, .int .i64 l, .int .i64 p, .int .i64 3, .int .u64 ep, .slice A3 hz.length c3, .slice A4 td.length c4, .int .i64 q0, .int .i64 q1, .int .i64 q2, .int .i64 q3, .int .i64 q4, .int .i64 1, .int .i64 sl, .int .u64 hd, .int .i64 tr, .slice A5 fr.length c5, .int .i64 0] 51)).alloc (.cells #[.slice none 0 0, .slice none 0 0, .int .i64 0, .int .i64 0, .int .i64 0, .int .i64 0, .int .i64 0, .int .i64 0, .int .u64 0, .slice none 0 0, .slice none 0 0, .int .i64 0, .int .i64 0, .int .i64 0, .int .i64 0, .int .i64 0, .int .i64 0, .int .i64 0, .int .u64 0, .int .i64 0, .slice none 0 0, .int .i64 0] 51)
  replace t5 := (t5.alloc (.cells #[.slice A1 r.length c1, .slice A2 ks.length c2, .int .i64 s, .int .i64 t, .int .i64 f, .int .i64 l, .int .i64 p, .int .i64 3, .int .u64 ep, .slice A3 hz.length c3, .slice A4 td.length c4, .int .i64 q0, .int .i64 q1, .int .i64 q2, .int .i64 q3, .int .i64 q4, .int .i64 1, .int .i64 sl, .int .u64 hd, .int .i64 tr, .slice A5 fr.length c5, .int .i64 0] 51)).alloc (.cells #[.slice none 0 0, .slice none 0 0, .int .i64 0, .int .i64 0, .int .i64 0, .int .i64 0, .int .i64 0, .int .i64 0, .int .u64 0, .slice none 0 0, .slice none 0 0, .int .i64 0, .int .i64 0, .int .i64 0, .int .i64 0, .int .i64 0, .int .i64 0, .int .i64 0, .int .u64 0, .int .i64 0, .slice none 0 0, .int .i64 0] 51)
  go_enter Tryd.func20, Tryd.ntmps20
  have ms := fun i => bs.cell i
  skip
  have RP := bs.rangeO 11 [.int .i64 q0, .int .i64 q1, .int .i64 q2, .int .i64 q3, .int .i64 q4, .int .i64 1, .int .i64 sl, .int .u64 hd, .int .i64 tr] (fun j v hv => by have : j < 9 := (List.getElem?_eq_some_iff.1 hv).1; match j, this, hv with | 0, _, h => exact h | 1, _, h => exact h | 2, _, h => exact h | 3, _, h => exact h | 4, _, h => exact h | 5, _, h => exact h | 6, _, h => exact h | 7, _, h => exact h | 8, _, h => exact h)
  go_wp2_with (first | (refine wpList_load_mid rfl 49 (.tmp 48) rfl w.heap.size 11 (by rfl) [.int .i64 q0, .int .i64 q1, .int .i64 q2, .int .i64 q3, .int .i64 q4, .int .i64 1, .int .i64 sl, .int .u64 hd, .int .i64 tr] _ RP Tryd.underlying49 rfl (by kernel_rfl) ?_))
  refine (pstook_1 q0 q1 q2 q3 q4 sl hd tr g _).mono ?_
  rintro e w1 ⟨rfl, hb⟩
  replace t1 := t1.below (Nat.le_refl _) hb
  replace t2 := t2.below (Nat.le_refl _) hb
  replace t3 := t3.below (Nat.le_refl _) hb
  replace t4 := t4.below (Nat.le_refl _) hb
  replace t5 := t5.below (Nat.le_refl _) hb
  replace bs := bs.below hb bs.lt
  replace bo := bo.below hb bo.lt
  replace B0 := B0.trans (hb.mono B0.size)
  clear hb ms RP
  go_wp2_with (first | (refine wpList_store_mid rfl 49 (.tmp 52) (.tmp 51) rfl w.heap.size 11 #[.int .i64 q0, .int .i64 q1, .int .i64 q2, .int .i64 q3, .int .i64 q4, .int .i64 2, .int .i64 sl, .int .u64 g, .int .i64 tr] (by rfl) (by rfl) (bs.thereO 11 (show 11 + 9 ≤ 22 by omega)) (by kernel_rfl) (by kernel_rfl) ?_; replace t1 := (show Tr (w1.setCells w.heap.size 11 [.int .i64 q0, .int .i64 q1, .int .i64 q2, .int .i64 q3, .int .i64 q4, .int .i64 2, .int .i64 sl, .int .u64 g, .int .i64 tr]) _ _ _ _ _ from by rw [putL_eq]; exact Tr.putL (by decide) _ 11 bs t1); replace t2 := (show Tr (w1.setCells w.heap.size 11 [.int .i64 q0, .int .i64 q1, .int .i64 q2, .int .i64 q3, .int .i64 q4, .int .i64 2, .int .i64 sl, .int .u64 g, .int .i64 tr]) _ _ _ _ _ from by rw [putL_eq]; exact Tr.putL (by decide) _ 11 bs t2); replace t3 := (show Tr (w1.setCells w.heap.size 11 [.int .i64 q0, .int .i64 q1, .int .i64 q2, .int .i64 q3, .int .i64 q4, .int .i64 2, .int .i64 sl, .int .u64 g, .int .i64 tr]) _ _ _ _ _ from by rw [putL_eq]; exact Tr.putL (by decide) _ 11 bs t3); replace t4 := (show Tr (w1.setCells w.heap.size 11 [.int .i64 q0, .int .i64 q1, .int .i64 q2, .int .i64 q3, .int .i64 q4, .int .i64 2, .int .i64 sl, .int .u64 g, .int .i64 tr]) _ _ _ _ _ from by rw [putL_eq]; exact Tr.putL (by decide) _ 11 bs t4); replace t5 := (show Tr (w1.setCells w.heap.size 11 [.int .i64 q0, .int .i64 q1, .int .i64 q2, .int .i64 q3, .int .i64 q4, .int .i64 2, .int .i64 sl, .int .u64 g, .int .i64 tr]) _ _ _ _ _ from by rw [putL_eq]; exact Tr.putL (by decide) _ 11 bs t5); replace bo := (show Blk (w1.setCells w.heap.size 11 [.int .i64 q0, .int .i64 q1, .int .i64 q2, .int .i64 q3, .int .i64 q4, .int .i64 2, .int .i64 sl, .int .u64 g, .int .i64 tr]) _ _ _ from by rw [putL_eq]; exact Blk.offL (by omega) _ _ 11 bo); replace B0 := (show Below w.heap.size w (w1.setCells w.heap.size 11 [.int .i64 q0, .int .i64 q1, .int .i64 q2, .int .i64 q3, .int .i64 q4, .int .i64 2, .int .i64 sl, .int .u64 g, .int .i64 tr]) from by rw [putL_eq]; exact Below.putL (Nat.le_refl _) _ _ 11 B0); replace bs := (show Blk (w1.setCells w.heap.size 11 [.int .i64 q0, .int .i64 q1, .int .i64 q2, .int .i64 q3, .int .i64 q4, .int .i64 2, .int .i64 sl, .int .u64 g, .int .i64 tr]) w.heap.size 51 #[.slice A1 r.length c1, .slice A2 ks.length c2, .int .i64 s, .int .i64 t, .int .i64 f, .int .i64 l, .int .i64 p, .int .i64 3, .int .u64 ep, .slice A3 hz.length c3, .slice A4 td.length c4, .int .i64 q0, .int .i64 q1, .int .i64 q2, .int .i64 q3, .int .i64 q4, .int .i64 2, .int .i64 sl, .int .u64 g, .int .i64 tr, .slice A5 fr.length c5, .int .i64 0] from by rw [putL_eq]; have h9 := Blk.putL [.int .i64 q0, .int .i64 q1, .int .i64 q2, .int .i64 q3, .int .i64 q4, .int .i64 2, .int .i64 sl, .int .u64 g, .int .i64 tr] _ _ 11 bs; simpa only [setL, List.setIfInBounds_toArray, List.set_cons_zero, List.set_cons_succ] using h9); generalize (w1.setCells w.heap.size 11 [.int .i64 q0, .int .i64 q1, .int .i64 q2, .int .i64 q3, .int .i64 q4, .int .i64 2, .int .i64 sl, .int .u64 g, .int .i64 tr]) = w2 at *; have RP := bs.rangeO 11 [.int .i64 q0, .int .i64 q1, .int .i64 q2, .int .i64 q3, .int .i64 q4, .int .i64 2, .int .i64 sl, .int .u64 g, .int .i64 tr] (fun j v hv => by have : j < 9 := (List.getElem?_eq_some_iff.1 hv).1; match j, this, hv with | 0, _, h => exact h | 1, _, h => exact h | 2, _, h => exact h | 3, _, h => exact h | 4, _, h => exact h | 5, _, h => exact h | 6, _, h => exact h | 7, _, h => exact h | 8, _, h => exact h)) | (refine wpList_load_mid rfl 49 (.tmp 53) rfl w.heap.size 11 (by rfl) [.int .i64 q0, .int .i64 q1, .int .i64 q2, .int .i64 q3, .int .i64 q4, .int .i64 2, .int .i64 sl, .int .u64 g, .int .i64 tr] _ RP Tryd.underlying49 rfl (by kernel_rfl) ?_))
  refine (psdone_1 q0 q1 q2 q3 q4 sl g tr 2 _ rfl).mono ?_
  rintro e w3 ⟨rfl, hb⟩
  replace t1 := t1.below (Nat.le_refl _) hb
  replace t2 := t2.below (Nat.le_refl _) hb
  replace t3 := t3.below (Nat.le_refl _) hb
  replace t4 := t4.below (Nat.le_refl _) hb
  replace t5 := t5.below (Nat.le_refl _) hb
  replace bs := bs.below hb bs.lt
  replace bo := bo.below hb bo.lt
  replace B0 := B0.trans (hb.mono B0.size)
  clear hb RP
  go_wp2_with (first | (refine wpList_load_mid rfl 51 (.tmp 2) rfl w.heap.size 0 (by rfl) [.slice A1 r.length c1, .slice A2 ks.length c2, .int .i64 s, .int .i64 t, .int .i64 f, .int .i64 l, .int .i64 p, .int .i64 3, .int .u64 ep, .slice A3 hz.length c3, .slice A4 td.length c4, .int .i64 q0, .int .i64 q1, .int .i64 q2, .int .i64 q3, .int .i64 q4, .int .i64 2, .int .i64 sl, .int .u64 g, .int .i64 tr, .slice A5 fr.length c5, .int .i64 0] _ bs.range Tryd.underlying51 rfl (by kernel_rfl) ?_) | (refine wpList_store_mid rfl 51 (.tmp 4) (.tmp 72) rfl (w.heap.size + 1) 0 #[.slice A1 r.length c1, .slice A2 ks.length c2, .int .i64 s, .int .i64 t, .int .i64 f, .int .i64 l, .int .i64 p, .int .i64 3, .int .u64 ep, .slice A3 hz.length c3, .slice A4 td.length c4, .int .i64 q0, .int .i64 q1, .int .i64 q2, .int .i64 q3, .int .i64 q4, .int .i64 2, .int .i64 sl, .int .u64 g, .int .i64 tr, .slice A5 fr.length c5, .int .i64 0] (by rfl) (by rfl) (bo.there rfl) (by kernel_rfl) (by kernel_rfl) ?_))
  replace t1 := (show Tr (w3.setCells (w.heap.size + 1) 0 [.slice A1 r.length c1, .slice A2 ks.length c2, .int .i64 s, .int .i64 t, .int .i64 f, .int .i64 l, .int .i64 p, .int .i64 3, .int .u64 ep, .slice A3 hz.length c3, .slice A4 td.length c4, .int .i64 q0, .int .i64 q1, .int .i64 q2, .int .i64 q3, .int .i64 q4, .int .i64 2, .int .i64 sl, .int .u64 g, .int .i64 tr, .slice A5 fr.length c5, .int .i64 0]) _ _ _ _ _ from by rw [putL_eq]; exact Tr.putL (by decide) _ 0 bo t1)
  replace t2 := (show Tr (w3.setCells (w.heap.size + 1) 0 [.slice A1 r.length c1, .slice A2 ks.length c2, .int .i64 s, .int .i64 t, .int .i64 f, .int .i64 l, .int .i64 p, .int .i64 3, .int .u64 ep, .slice A3 hz.length c3, .slice A4 td.length c4, .int .i64 q0, .int .i64 q1, .int .i64 q2, .int .i64 q3, .int .i64 q4, .int .i64 2, .int .i64 sl, .int .u64 g, .int .i64 tr, .slice A5 fr.length c5, .int .i64 0]) _ _ _ _ _ from by rw [putL_eq]; exact Tr.putL (by decide) _ 0 bo t2)
  replace t3 := (show Tr (w3.setCells (w.heap.size + 1) 0 [.slice A1 r.length c1, .slice A2 ks.length c2, .int .i64 s, .int .i64 t, .int .i64 f, .int .i64 l, .int .i64 p, .int .i64 3, .int .u64 ep, .slice A3 hz.length c3, .slice A4 td.length c4, .int .i64 q0, .int .i64 q1, .int .i64 q2, .int .i64 q3, .int .i64 q4, .int .i64 2, .int .i64 sl, .int .u64 g, .int .i64 tr, .slice A5 fr.length c5, .int .i64 0]) _ _ _ _ _ from by rw [putL_eq]; exact Tr.putL (by decide) _ 0 bo t3)
  replace t4 := (show Tr (w3.setCells (w.heap.size + 1) 0 [.slice A1 r.length c1, .slice A2 ks.length c2, .int .i64 s, .int .i64 t, .int .i64 f, .int .i64 l, .int .i64 p, .int .i64 3, .int .u64 ep, .slice A3 hz.length c3, .slice A4 td.length c4, .int .i64 q0, .int .i64 q1, .int .i64 q2, .int .i64 q3, .int .i64 q4, .int .i64 2, .int .i64 sl, .int .u64 g, .int .i64 tr, .slice A5 fr.length c5, .int .i64 0]) _ _ _ _ _ from by rw [putL_eq]; exact Tr.putL (by decide) _ 0 bo t4)
  replace t5 := (show Tr (w3.setCells (w.heap.size + 1) 0 [.slice A1 r.length c1, .slice A2 ks.length c2, .int .i64 s, .int .i64 t, .int .i64 f, .int .i64 l, .int .i64 p, .int .i64 3, .int .u64 ep, .slice A3 hz.length c3, .slice A4 td.length c4, .int .i64 q0, .int .i64 q1, .int .i64 q2, .int .i64 q3, .int .i64 q4, .int .i64 2, .int .i64 sl, .int .u64 g, .int .i64 tr, .slice A5 fr.length c5, .int .i64 0]) _ _ _ _ _ from by rw [putL_eq]; exact Tr.putL (by decide) _ 0 bo t5)
  replace B0 := (show Below w.heap.size w (w3.setCells (w.heap.size + 1) 0 [.slice A1 r.length c1, .slice A2 ks.length c2, .int .i64 s, .int .i64 t, .int .i64 f, .int .i64 l, .int .i64 p, .int .i64 3, .int .u64 ep, .slice A3 hz.length c3, .slice A4 td.length c4, .int .i64 q0, .int .i64 q1, .int .i64 q2, .int .i64 q3, .int .i64 q4, .int .i64 2, .int .i64 sl, .int .u64 g, .int .i64 tr, .slice A5 fr.length c5, .int .i64 0]) from by rw [putL_eq]; exact Below.putL (by omega) _ _ 0 B0)
  replace bo := (show Blk (w3.setCells (w.heap.size + 1) 0 [.slice A1 r.length c1, .slice A2 ks.length c2, .int .i64 s, .int .i64 t, .int .i64 f, .int .i64 l, .int .i64 p, .int .i64 3, .int .u64 ep, .slice A3 hz.length c3, .slice A4 td.length c4, .int .i64 q0, .int .i64 q1, .int .i64 q2, .int .i64 q3, .int .i64 q4, .int .i64 2, .int .i64 sl, .int .u64 g, .int .i64 tr, .slice A5 fr.length c5, .int .i64 0]) (w.heap.size + 1) 51 #[.slice A1 r.length c1, .slice A2 ks.length c2, .int .i64 s, .int .i64 t, .int .i64 f, .int .i64 l, .int .i64 p, .int .i64 3, .int .u64 ep, .slice A3 hz.length c3, .slice A4 td.length c4, .int .i64 q0, .int .i64 q1, .int .i64 q2, .int .i64 q3, .int .i64 q4, .int .i64 2, .int .i64 sl, .int .u64 g, .int .i64 tr, .slice A5 fr.length c5, .int .i64 0] from by rw [putL_eq]; have h9 := Blk.putL [.slice A1 r.length c1, .slice A2 ks.length c2, .int .i64 s, .int .i64 t, .int .i64 f, .int .i64 l, .int .i64 p, .int .i64 3, .int .u64 ep, .slice A3 hz.length c3, .slice A4 td.length c4, .int .i64 q0, .int .i64 q1, .int .i64 q2, .int .i64 q3, .int .i64 q4, .int .i64 2, .int .i64 sl, .int .u64 g, .int .i64 tr, .slice A5 fr.length c5, .int .i64 0] _ _ 0 bo; simpa only [setL, List.setIfInBounds_toArray, List.set_cons_zero, List.set_cons_succ] using h9)
  clear bs
  generalize w3.setCells (w.heap.size + 1) 0 [.slice A1 r.length c1, .slice A2 ks.length c2, .int .i64 s, .int .i64 t, .int .i64 f, .int .i64 l, .int .i64 p, .int .i64 3, .int .u64 ep, .slice A3 hz.length c3, .slice A4 td.length c4, .int .i64 q0, .int .i64 q1, .int .i64 q2, .int .i64 q3, .int .i64 q4, .int .i64 2, .int .i64 sl, .int .u64 g, .int .i64 tr, .slice A5 fr.length c5, .int .i64 0] = w12 at *
  have hres : (loadVar 51 ⟨w.heap.size + 1, 0, none⟩).run Tryd.prog w12 = .ok (.agg #[.slice A1 r.length c1, .slice A2 ks.length c2, .int .i64 s, .int .i64 t, .int .i64 f, .int .i64 l, .int .i64 p, .int .i64 3, .int .u64 ep, .slice A3 hz.length c3, .slice A4 td.length c4, .int .i64 q0, .int .i64 q1, .int .i64 q2, .int .i64 q3, .int .i64 q4, .int .i64 2, .int .i64 sl, .int .u64 g, .int .i64 tr, .slice A5 fr.length c5, .int .i64 0]) w12 := run_loadVar_mid w12 _ 0 _ [.slice A1 r.length c1, .slice A2 ks.length c2, .int .i64 s, .int .i64 t, .int .i64 f, .int .i64 l, .int .i64 p, .int .i64 3, .int .u64 ep, .slice A3 hz.length c3, .slice A4 td.length c4, .int .i64 q0, .int .i64 q1, .int .i64 q2, .int .i64 q3, .int .i64 q4, .int .i64 2, .int .i64 sl, .int .u64 g, .int .i64 tr, .slice A5 fr.length c5, .int .i64 0] _ bo.range Tryd.underlying51 rfl (by kernel_rfl)
  refine bodyPost_ret (v := .agg #[.slice A1 r.length c1, .slice A2 ks.length c2, .int .i64 s, .int .i64 t, .int .i64 f, .int .i64 l, .int .i64 p, .int .i64 3, .int .u64 ep, .slice A3 hz.length c3, .slice A4 td.length c4, .int .i64 q0, .int .i64 q1, .int .i64 q2, .int .i64 q3, .int .i64 q4, .int .i64 2, .int .i64 sl, .int .u64 g, .int .i64 tr, .slice A5 fr.length c5, .int .i64 0]) (by simp [results, Tryd.results20, Act.put, asAddr, hres]) rfl ⟨⟨_, rfl, _, _, _, _, _, _, _, _, _, _, rfl, t1, t2, t3, t4, t5⟩, B0⟩
set_option linter.unusedSimpArgs false in
set_option maxRecDepth 100000 in
set_option maxHeartbeats 4000000 in
theorem stook_3b [Inhabited GhT] (s t f l p ep : Int) (r : List (Int × Int)) (ks hz : List Int) (td : List (Int × Bool)) (q0 q1 q2 q3 q4 sl hd tr : Int) (fr : List Int) (ju : Int) (g : Int) (v : Value) (w : World) (hv : SwV w s t f l p 3 ep r ks hz td q0 q1 q2 q3 q4 2 sl hd tr fr ju v) :
    Calls Tryd.prog 20 #[v, .int .u64 g] w fun e w' => (∃ v', e = .returned v' ∧ SwV w' s t f l p 3 ep r ks hz td q0 q1 q2 q3 q4 3 sl hd tr fr 0 v') ∧ Below w.heap.size w w' := by
  obtain ⟨A1, c1, A2, c2, A3, c3, A4, c4, A5, c5, rfl, t1, t2, t3, t4, t5⟩ := hv
  have B0 := ((Below.refl w.heap.size w).alloc (Nat.le_refl _) (.cells #[.slice A1 r.length c1, .slice A2 ks.length c2, .int .i64 s, .int .i64 t, .int .i64 f, .int .i64 l, .int .i64 p, .int .i64 3, .int .u64 ep, .slice A3 hz.length c3, .slice A4 td.length c4, .int .i64 q0, .int .i64 q1, .int .i64 q2, .int .i64 q3, .int .i64 q4, .int .i64 2, .int .i64 sl, .int .u64 hd, .int .i64 tr, .slice A5 fr.length c5, .int .i64 0] 51)).alloc (by simp only [World.size_alloc]; omega) (.cells #[.slice none 0 0, .slice none 0 0, .int .i64 0, .int .i64 0, .int .i64 0, .int .i64 0, .int .i64 0, .int .i64 0, .int .u64 0, .slice none 0 0, .slice none 0 0, .int .i64 0, .int .i64 0, .int .i64 0, .int .i64 0, .int .i64 0, .int .i64 0, .int .i64 0, .int .u64 0, .int .i64 0, .slice none 0 0, .int .i64 0] 51)
  have bs := (Blk.new w 51 #[.slice A1 r.length c1, .slice A2 ks.length c2, .int .i64 s, .int .i64 t, .int .i64 f, .int .i64 l, .int .i64 p, .int .i64 3, .int .u64 ep, .slice A3 hz.length c3, .slice A4 td.length c4, .int .i64 q0, .int .i64 q1, .int .i64 q2, .int .i64 q3, .int .i64 q4, .int .i64 2, .int .i64 sl, .int .u64 hd, .int .i64 tr, .slice A5 fr.length c5, .int .i64 0]).alloc (.cells #[.slice none 0 0, .slice none 0 0, .int .i64 0, .int .i64 0, .int .i64 0, .int .i64 0, .int .i64 0, .int .i64 0, .int .u64 0, .slice none 0 0, .slice none 0 0, .int .i64 0, .int .i64 0, .int .i64 0, .int .i64 0, .int .i64 0, .int .i64 0, .int .i64 0, .int .u64 0, .int .i64 0, .slice none 0 0, .int .i64 0] 51)
  have bo := Blk.new (w.alloc (.cells #[.slice A1 r.length c1, .slice A2 ks.length c2, .int .i64 s, .int .i64 t, .int .i64 f, .int .i64 l, .int .i64 p, .int .i64 3, .int .u64 ep, .slice A3 hz.length c3, .slice A4 td.length c4, .int .i64 q0, .int .i64 q1, .int .i64 q2, .int .i64 q3, .int .i64 q4, .int .i64 2, .int .i64 sl, .int .u64 hd, .int .i64 tr, .slice A5 fr.length c5, .int .i64 0] 51)) 51 #[.slice none 0 0, .slice none 0 0, .int .i64 0, .int .i64 0, .int .i64 0, .int .i64 0, .int .i64 0, .int .i64 0, .int .u64 0, .slice none 0 0, .slice none 0 0, .int .i64 0, .int .i64 0, .int .i64 0, .int .i64 0, .int .i64 0, .int .i64 0, .int .i64 0, .int .u64 0, .int .i64 0, .slice none 0 0, .int .i64 0]
  simp only [World.size_alloc] at bo
  replace t1 := (t1.alloc (.cells #[.slice A1 r.length c1, .slice A2 ks.length c2, .int .i64 s, .int .i64 t, .int .i64 f, .int .i64 l, .int .i64 p, .int .i64 3, .int .u64 ep, .slice A3 hz.length c3, .slice A4 td.length c4, .int .i64 q0, .int .i64 q1, .int .i64 q2, .int .i64 q3, .int .i64 q4, .int .i64 2, .int .i64 sl, .int .u64 hd, .int .i64 tr, .slice A5 fr.length c5, .int .i64 0] 51)).alloc (.cells #[.slice none 0 0, .slice none 0 0, .int .i64 0, .int .i64 0, .int .i64 0, .int .i64 0, .int .i64 0, .int .i64 0, .int .u64 0, .slice none 0 0, .slice none 0 0, .int .i64 0, .int .i64 0, .int .i64 0, .int .i64 0, .int .i64 0, .int .i64 0, .int .i64 0, .int .u64 0, .int .i64 0, .slice none 0 0, .int .i64 0] 51)
  replace t2 := (t2.alloc (.cells #[.slice A1 r.length c1, .slice A2 ks.length c2, .int .i64 s, .int .i64 t, .int .i64 f, .int .i64 l, .int .i64 p, .int .i64 3, .int .u64 ep, .slice A3 hz.length c3, .slice A4 td.length c4, .int .i64 q0, .int .i64 q1, .int .i64 q2, .int .i64 q3, .int .i64 q4, .int .i64 2, .int .i64 sl, .int .u64 hd, .int .i64 tr, .slice A5 fr.length c5, .int .i64 0] 51)).alloc (.cells #[.slice none 0 0, .slice none 0 0, .int .i64 0, .int .i64 0, .int .i64 0, .int .i64 0, .int .i64 0, .int .i64 0, .int .u64 0, .slice none 0 0, .slice none 0 0, .int .i64 0, .int .i64 0, .int .i64 0, .int .i64 0, .int .i64 0, .int .i64 0, .int .i64 0, .int .u64 0, .int .i64 0, .slice none 0 0, .int .i64 0] 51)
  replace t3 := (t3.alloc (.cells #[.slice A1 r.length c1, .slice A2 ks.length c2, .int .i64 s, .int .i64 t, .int .i64 f, .int .i64 l, .int .i64 p, .int .i64 3, .int .u64 ep, .slice A3 hz.length c3, .slice A4 td.length c4, .int .i64 q0, .int .i64 q1, .int .i64 q2, .int .i64 q3, .int .i64 q4, .int .i64 2, .int .i64 sl, .int .u64 hd, .int .i64 tr, .slice A5 fr.length c5, .int .i64 0] 51)).alloc (.cells #[.slice none 0 0, .slice none 0 0, .int .i64 0, .int .i64 0, .int .i64 0, .int .i64 0, .int .i64 0, .int .i64 0, .int .u64 0, .slice none 0 0, .slice none 0 0, .int .i64 0, .int .i64 0, .int .i64 0, .int .i64 0, .int .i64 0, .int .i64 0, .int .i64 0, .int .u64 0, .int .i64 0, .slice none 0 0, .int .i64 0] 51)
  replace t4 := (t4.alloc (.cells #[.slice A1 r.length c1, .slice A2 ks.length c2, .int .i64 s, .int .i64 t, .int .i64 f, .int .i64 l, .int .i64 p, .int .i64 3, .int .u64 ep, .slice A3 hz.length c3, .slice A4 td.length c4, .int .i64 q0, .int .i64 q1, .int .i64 q2, .int .i64 q3, .int .i64 q4, .int .i64 2, .int .i64 sl, .int .u64 hd, .int .i64 tr, .slice A5 fr.length c5, .int .i64 0] 51)).alloc (.cells #[.slice none 0 0, .slice none 0 0, .int .i64 0, .int .i64 0, .int .i64 0, .int .i64 0, .int .i64 0, .int .i64 0, .int .u64 0, .slice none 0 0, .slice none 0 0, .int .i64 0, .int .i64 0, .int .i64 0, .int .i64 0, .int .i64 0, .int .i64 0, .int .i64 0, .int .u64 0, .int .i64 0, .slice none 0 0, .int .i64 0] 51)
  replace t5 := (t5.alloc (.cells #[.slice A1 r.length c1, .slice A2 ks.length c2, .int .i64 s, .int .i64 t, .int .i64 f, .int .i64 l, .int .i64 p, .int .i64 3, .int .u64 ep, .slice A3 hz.length c3, .slice A4 td.length c4, .int .i64 q0, .int .i64 q1, .int .i64 q2, .int .i64 q3, .int .i64 q4, .int .i64 2, .int .i64 sl, .int .u64 hd, .int .i64 tr, .slice A5 fr.length c5, .int .i64 0] 51)).alloc (.cells #[.slice none 0 0, .slice none 0 0, .int .i64 0, .int .i64 0, .int .i64 0, .int .i64 0, .int .i64 0, .int .i64 0, .int .u64 0, .slice none 0 0, .slice none 0 0, .int .i64 0, .int .i64 0, .int .i64 0, .int .i64 0, .int .i64 0, .int .i64 0, .int .i64 0, .int .u64 0, .int .i64 0, .slice none 0 0, .int .i64 0] 51)
  go_enter Tryd.func20, Tryd.ntmps20
  have ms := fun i => bs.cell i
  skip
  have RP := bs.rangeO 11 [.int .i64 q0, .int .i64 q1, .int .i64 q2, .int .i64 q3, .int .i64 q4, .int .i64 2, .int .i64 sl, .int .u64 hd, .int .i64 tr] (fun j v hv => by have : j < 9 := (List.getElem?_eq_some_iff.1 hv).1; match j, this, hv with | 0, _, h => exact h | 1, _, h => exact h | 2, _, h => exact h | 3, _, h => exact h | 4, _, h => exact h | 5, _, h => exact h | 6, _, h => exact h | 7, _, h => exact h | 8, _, h => exact h)
  go_wp2_with (first | (refine wpList_load_mid rfl 49 (.tmp 48) rfl w.heap.size 11 (by rfl) [.int .i64 q0, .int .i64 q1, .int .i64 q2, .int .i64 q3, .int .i64 q4, .int .i64 2, .int .i64 sl, .int .u64 hd, .int .i64 tr] _ RP Tryd.underlying49 rfl (by kernel_rfl) ?_))
  refine (pstook_2 q0 q1 q2 q3 q4 sl hd tr g _).mono ?_
  rintro e w1 ⟨rfl, hb⟩
  replace t1 := t1.below (Nat.le_refl _) hb
  replace t2 := t2.below (Nat.le_refl _) hb
  replace t3 := t3.below (Nat.le_refl _) hb
  replace t4 := t4.below (Nat.le_refl _) hb
  replace t5 := t5.below (Nat.le_refl _) hb
  replace bs := bs.below hb bs.lt
  replace bo := bo.below hb bo.lt
  replace B0 := B0.trans (hb.mono B0.size)
  clear hb ms RP
  go_wp2_with (first | (refine wpList_store_mid rfl 49 (.tmp 52) (.tmp 51) rfl w.heap.size 11 #[.int .i64 q0, .int .i64 q1, .int .i64 q2, .int .i64 q3, .int .i64 q4, .int .i64 3, .int .i64 sl, .int .u64 hd, .int .i64 tr] (by rfl) (by rfl) (bs.thereO 11 (show 11 + 9 ≤ 22 by omega)) (by kernel_rfl) (by kernel_rfl) ?_; replace t1 := (show Tr (w1.setCells w.heap.size 11 [.int .i64 q0, .int .i64 q1, .int .i64 q2, .int .i64 q3, .int .i64 q4, .int .i64 3, .int .i64 sl, .int .u64 hd, .int .i64 tr]) _ _ _ _ _ from by rw [putL_eq]; exact Tr.putL (by decide) _ 11 bs t1); replace t2 := (show Tr (w1.setCells w.heap.size 11 [.int .i64 q0, .int .i64 q1, .int .i64 q2, .int .i64 q3, .int .i64 q4, .int .i64 3, .int .i64 sl, .int .u64 hd, .int .i64 tr]) _ _ _ _ _ from by rw [putL_eq]; exact Tr.putL (by decide) _ 11 bs t2); replace t3 := (show Tr (w1.setCells w.heap.size 11 [.int .i64 q0, .int .i64 q1, .int .i64 q2, .int .i64 q3, .int .i64 q4, .int .i64 3, .int .i64 sl, .int .u64 hd, .int .i64 tr]) _ _ _ _ _ from by rw [putL_eq]; exact Tr.putL (by decide) _ 11 bs t3); replace t4 := (show Tr (w1.setCells w.heap.size 11 [.int .i64 q0, .int .i64 q1, .int .i64 q2, .int .i64 q3, .int .i64 q4, .int .i64 3, .int .i64 sl, .int .u64 hd, .int .i64 tr]) _ _ _ _ _ from by rw [putL_eq]; exact Tr.putL (by decide) _ 11 bs t4); replace t5 := (show Tr (w1.setCells w.heap.size 11 [.int .i64 q0, .int .i64 q1, .int .i64 q2, .int .i64 q3, .int .i64 q4, .int .i64 3, .int .i64 sl, .int .u64 hd, .int .i64 tr]) _ _ _ _ _ from by rw [putL_eq]; exact Tr.putL (by decide) _ 11 bs t5); replace bo := (show Blk (w1.setCells w.heap.size 11 [.int .i64 q0, .int .i64 q1, .int .i64 q2, .int .i64 q3, .int .i64 q4, .int .i64 3, .int .i64 sl, .int .u64 hd, .int .i64 tr]) _ _ _ from by rw [putL_eq]; exact Blk.offL (by omega) _ _ 11 bo); replace B0 := (show Below w.heap.size w (w1.setCells w.heap.size 11 [.int .i64 q0, .int .i64 q1, .int .i64 q2, .int .i64 q3, .int .i64 q4, .int .i64 3, .int .i64 sl, .int .u64 hd, .int .i64 tr]) from by rw [putL_eq]; exact Below.putL (Nat.le_refl _) _ _ 11 B0); replace bs := (show Blk (w1.setCells w.heap.size 11 [.int .i64 q0, .int .i64 q1, .int .i64 q2, .int .i64 q3, .int .i64 q4, .int .i64 3, .int .i64 sl, .int .u64 hd, .int .i64 tr]) w.heap.size 51 #[.slice A1 r.length c1, .slice A2 ks.length c2, .int .i64 s, .int .i64 t, .int .i64 f, .int .i64 l, .int .i64 p, .int .i64 3, .int .u64 ep, .slice A3 hz.length c3, .slice A4 td.length c4, .int .i64 q0, .int .i64 q1, .int .i64 q2, .int .i64 q3, .int .i64 q4, .int .i64 3, .int .i64 sl, .int .u64 hd, .int .i64 tr, .slice A5 fr.length c5, .int .i64 0] from by rw [putL_eq]; have h9 := Blk.putL [.int .i64 q0, .int .i64 q1, .int .i64 q2, .int .i64 q3, .int .i64 q4, .int .i64 3, .int .i64 sl, .int .u64 hd, .int .i64 tr] _ _ 11 bs; simpa only [setL, List.setIfInBounds_toArray, List.set_cons_zero, List.set_cons_succ] using h9); generalize (w1.setCells w.heap.size 11 [.int .i64 q0, .int .i64 q1, .int .i64 q2, .int .i64 q3, .int .i64 q4, .int .i64 3, .int .i64 sl, .int .u64 hd, .int .i64 tr]) = w2 at *; have RP := bs.rangeO 11 [.int .i64 q0, .int .i64 q1, .int .i64 q2, .int .i64 q3, .int .i64 q4, .int .i64 3, .int .i64 sl, .int .u64 hd, .int .i64 tr] (fun j v hv => by have : j < 9 := (List.getElem?_eq_some_iff.1 hv).1; match j, this, hv with | 0, _, h => exact h | 1, _, h => exact h | 2, _, h => exact h | 3, _, h => exact h | 4, _, h => exact h | 5, _, h => exact h | 6, _, h => exact h | 7, _, h => exact h | 8, _, h => exact h)) | (refine wpList_load_mid rfl 49 (.tmp 53) rfl w.heap.size 11 (by rfl) [.int .i64 q0, .int .i64 q1, .int .i64 q2, .int .i64 q3, .int .i64 q4, .int .i64 3, .int .i64 sl, .int .u64 hd, .int .i64 tr] _ RP Tryd.underlying49 rfl (by kernel_rfl) ?_))
  refine (psdone_1 q0 q1 q2 q3 q4 sl hd tr 3 _ rfl).mono ?_
  rintro e w3 ⟨rfl, hb⟩
  replace t1 := t1.below (Nat.le_refl _) hb
  replace t2 := t2.below (Nat.le_refl _) hb
  replace t3 := t3.below (Nat.le_refl _) hb
  replace t4 := t4.below (Nat.le_refl _) hb
  replace t5 := t5.below (Nat.le_refl _) hb
  replace bs := bs.below hb bs.lt
  replace bo := bo.below hb bo.lt
  replace B0 := B0.trans (hb.mono B0.size)
  clear hb RP
  go_wp2_with (first | (refine wpList_load_mid rfl 51 (.tmp 2) rfl w.heap.size 0 (by rfl) [.slice A1 r.length c1, .slice A2 ks.length c2, .int .i64 s, .int .i64 t, .int .i64 f, .int .i64 l, .int .i64 p, .int .i64 3, .int .u64 ep, .slice A3 hz.length c3, .slice A4 td.length c4, .int .i64 q0, .int .i64 q1, .int .i64 q2, .int .i64 q3, .int .i64 q4, .int .i64 3, .int .i64 sl, .int .u64 hd, .int .i64 tr, .slice A5 fr.length c5, .int .i64 0] _ bs.range Tryd.underlying51 rfl (by kernel_rfl) ?_) | (refine wpList_store_mid rfl 51 (.tmp 4) (.tmp 72) rfl (w.heap.size + 1) 0 #[.slice A1 r.length c1, .slice A2 ks.length c2, .int .i64 s, .int .i64 t, .int .i64 f, .int .i64 l, .int .i64 p, .int .i64 3, .int .u64 ep, .slice A3 hz.length c3, .slice A4 td.length c4, .int .i64 q0, .int .i64 q1, .int .i64 q2, .int .i64 q3, .int .i64 q4, .int .i64 3, .int .i64 sl, .int .u64 hd, .int .i64 tr, .slice A5 fr.length c5, .int .i64 0] (by rfl) (by rfl) (bo.there rfl) (by kernel_rfl) (by kernel_rfl) ?_))
  replace t1 := (show Tr (w3.setCells (w.heap.size + 1) 0 [.slice A1 r.length c1, .slice A2 ks.length c2, .int .i64 s, .int .i64 t, .int .i64 f, .int .i64 l, .int .i64 p, .int .i64 3, .int .u64 ep, .slice A3 hz.length c3, .slice A4 td.length c4, .int .i64 q0, .int .i64 q1, .int .i64 q2, .int .i64 q3, .int .i64 q4, .int .i64 3, .int .i64 sl, .int .u64 hd, .int .i64 tr, .slice A5 fr.length c5, .int .i64 0]) _ _ _ _ _ from by rw [putL_eq]; exact Tr.putL (by decide) _ 0 bo t1)
  replace t2 := (show Tr (w3.setCells (w.heap.size + 1) 0 [.slice A1 r.length c1, .slice A2 ks.length c2, .int .i64 s, .int .i64 t, .int .i64 f, .int .i64 l, .int .i64 p, .int .i64 3, .int .u64 ep, .slice A3 hz.length c3, .slice A4 td.length c4, .int .i64 q0, .int .i64 q1, .int .i64 q2, .int .i64 q3, .int .i64 q4, .int .i64 3, .int .i64 sl, .int .u64 hd, .int .i64 tr, .slice A5 fr.length c5, .int .i64 0]) _ _ _ _ _ from by rw [putL_eq]; exact Tr.putL (by decide) _ 0 bo t2)
  replace t3 := (show Tr (w3.setCells (w.heap.size + 1) 0 [.slice A1 r.length c1, .slice A2 ks.length c2, .int .i64 s, .int .i64 t, .int .i64 f, .int .i64 l, .int .i64 p, .int .i64 3, .int .u64 ep, .slice A3 hz.length c3, .slice A4 td.length c4, .int .i64 q0, .int .i64 q1, .int .i64 q2, .int .i64 q3, .int .i64 q4, .int .i64 3, .int .i64 sl, .int .u64 hd, .int .i64 tr, .slice A5 fr.length c5, .int .i64 0]) _ _ _ _ _ from by rw [putL_eq]; exact Tr.putL (by decide) _ 0 bo t3)
  replace t4 := (show Tr (w3.setCells (w.heap.size + 1) 0 [.slice A1 r.length c1, .slice A2 ks.length c2, .int .i64 s, .int .i64 t, .int .i64 f, .int .i64 l, .int .i64 p, .int .i64 3, .int .u64 ep, .slice A3 hz.length c3, .slice A4 td.length c4, .int .i64 q0, .int .i64 q1, .int .i64 q2, .int .i64 q3, .int .i64 q4, .int .i64 3, .int .i64 sl, .int .u64 hd, .int .i64 tr, .slice A5 fr.length c5, .int .i64 0]) _ _ _ _ _ from by rw [putL_eq]; exact Tr.putL (by decide) _ 0 bo t4)
  replace t5 := (show Tr (w3.setCells (w.heap.size + 1) 0 [.slice A1 r.length c1, .slice A2 ks.length c2, .int .i64 s, .int .i64 t, .int .i64 f, .int .i64 l, .int .i64 p, .int .i64 3, .int .u64 ep, .slice A3 hz.length c3, .slice A4 td.length c4, .int .i64 q0, .int .i64 q1, .int .i64 q2, .int .i64 q3, .int .i64 q4, .int .i64 3, .int .i64 sl, .int .u64 hd, .int .i64 tr, .slice A5 fr.length c5, .int .i64 0]) _ _ _ _ _ from by rw [putL_eq]; exact Tr.putL (by decide) _ 0 bo t5)
  replace B0 := (show Below w.heap.size w (w3.setCells (w.heap.size + 1) 0 [.slice A1 r.length c1, .slice A2 ks.length c2, .int .i64 s, .int .i64 t, .int .i64 f, .int .i64 l, .int .i64 p, .int .i64 3, .int .u64 ep, .slice A3 hz.length c3, .slice A4 td.length c4, .int .i64 q0, .int .i64 q1, .int .i64 q2, .int .i64 q3, .int .i64 q4, .int .i64 3, .int .i64 sl, .int .u64 hd, .int .i64 tr, .slice A5 fr.length c5, .int .i64 0]) from by rw [putL_eq]; exact Below.putL (by omega) _ _ 0 B0)
  replace bo := (show Blk (w3.setCells (w.heap.size + 1) 0 [.slice A1 r.length c1, .slice A2 ks.length c2, .int .i64 s, .int .i64 t, .int .i64 f, .int .i64 l, .int .i64 p, .int .i64 3, .int .u64 ep, .slice A3 hz.length c3, .slice A4 td.length c4, .int .i64 q0, .int .i64 q1, .int .i64 q2, .int .i64 q3, .int .i64 q4, .int .i64 3, .int .i64 sl, .int .u64 hd, .int .i64 tr, .slice A5 fr.length c5, .int .i64 0]) (w.heap.size + 1) 51 #[.slice A1 r.length c1, .slice A2 ks.length c2, .int .i64 s, .int .i64 t, .int .i64 f, .int .i64 l, .int .i64 p, .int .i64 3, .int .u64 ep, .slice A3 hz.length c3, .slice A4 td.length c4, .int .i64 q0, .int .i64 q1, .int .i64 q2, .int .i64 q3, .int .i64 q4, .int .i64 3, .int .i64 sl, .int .u64 hd, .int .i64 tr, .slice A5 fr.length c5, .int .i64 0] from by rw [putL_eq]; have h9 := Blk.putL [.slice A1 r.length c1, .slice A2 ks.length c2, .int .i64 s, .int .i64 t, .int .i64 f, .int .i64 l, .int .i64 p, .int .i64 3, .int .u64 ep, .slice A3 hz.length c3, .slice A4 td.length c4, .int .i64 q0, .int .i64 q1, .int .i64 q2, .int .i64 q3, .int .i64 q4, .int .i64 3, .int .i64 sl, .int .u64 hd, .int .i64 tr, .slice A5 fr.length c5, .int .i64 0] _ _ 0 bo; simpa only [setL, List.setIfInBounds_toArray, List.set_cons_zero, List.set_cons_succ] using h9)
  clear bs
  generalize w3.setCells (w.heap.size + 1) 0 [.slice A1 r.length c1, .slice A2 ks.length c2, .int .i64 s, .int .i64 t, .int .i64 f, .int .i64 l, .int .i64 p, .int .i64 3, .int .u64 ep, .slice A3 hz.length c3, .slice A4 td.length c4, .int .i64 q0, .int .i64 q1, .int .i64 q2, .int .i64 q3, .int .i64 q4, .int .i64 3, .int .i64 sl, .int .u64 hd, .int .i64 tr, .slice A5 fr.length c5, .int .i64 0] = w12 at *
  have hres : (loadVar 51 ⟨w.heap.size + 1, 0, none⟩).run Tryd.prog w12 = .ok (.agg #[.slice A1 r.length c1, .slice A2 ks.length c2, .int .i64 s, .int .i64 t, .int .i64 f, .int .i64 l, .int .i64 p, .int .i64 3, .int .u64 ep, .slice A3 hz.length c3, .slice A4 td.length c4, .int .i64 q0, .int .i64 q1, .int .i64 q2, .int .i64 q3, .int .i64 q4, .int .i64 3, .int .i64 sl, .int .u64 hd, .int .i64 tr, .slice A5 fr.length c5, .int .i64 0]) w12 := run_loadVar_mid w12 _ 0 _ [.slice A1 r.length c1, .slice A2 ks.length c2, .int .i64 s, .int .i64 t, .int .i64 f, .int .i64 l, .int .i64 p, .int .i64 3, .int .u64 ep, .slice A3 hz.length c3, .slice A4 td.length c4, .int .i64 q0, .int .i64 q1, .int .i64 q2, .int .i64 q3, .int .i64 q4, .int .i64 3, .int .i64 sl, .int .u64 hd, .int .i64 tr, .slice A5 fr.length c5, .int .i64 0] _ bo.range Tryd.underlying51 rfl (by kernel_rfl)
  refine bodyPost_ret (v := .agg #[.slice A1 r.length c1, .slice A2 ks.length c2, .int .i64 s, .int .i64 t, .int .i64 f, .int .i64 l, .int .i64 p, .int .i64 3, .int .u64 ep, .slice A3 hz.length c3, .slice A4 td.length c4, .int .i64 q0, .int .i64 q1, .int .i64 q2, .int .i64 q3, .int .i64 q4, .int .i64 3, .int .i64 sl, .int .u64 hd, .int .i64 tr, .slice A5 fr.length c5, .int .i64 0]) (by simp [results, Tryd.results20, Act.put, asAddr, hres]) rfl ⟨⟨_, rfl, _, _, _, _, _, _, _, _, _, _, rfl, t1, t2, t3, t4, t5⟩, B0⟩
set_option linter.unusedSimpArgs false in
set_option maxRecDepth 100000 in
set_option maxHeartbeats 4000000 in
theorem stook_3c [Inhabited GhT] (s t f l p ep : Int) (r : List (Int × Int)) (ks hz : List Int) (td : List (Int × Bool)) (q0 q1 q2 q3 q4 sl hd tr : Int) (fr : List Int) (ju : Int) (h : Int) (kp : Bool) (v : Value) (w : World) (hv : SwV w s t f l p 3 ep r ks hz ((h, kp) :: td) q0 q1 q2 q3 q4 3 sl hd tr fr ju v) (hh : W64 h)
    (r2 : List (Int × Int)) (ks2 : List Int) (k2 p0 p1 p2 p3 p4 pk2 sl2 hd2 tr2 : Int)
    (GN : ∀ v w1, SwV w1 s t f l p 3 ep r ks hz td q0 q1 q2 q3 q4 0 sl hd tr fr 0 v → Calls Tryd.prog 50 #[v, .agg #[.int .u64 h, .bool kp]] w1 fun e w2 => (∃ v2, e = .returned v2 ∧ SwV w2 s t f l p 3 ep r2 ks2 hz td q0 q1 q2 q3 q4 0 sl hd tr (fr ++ [h]) 0 v2) ∧ Below w1.heap.size w1 w2)
    (NX : ∀ v w1, SwV w1 s t f l p 3 ep r2 ks2 hz td q0 q1 q2 q3 q4 0 sl hd tr (fr ++ [h]) 0 v → Calls Tryd.prog 51 #[v] w1 fun e w2 => (∃ v2, e = .returned v2 ∧ SwV w2 s t f l p k2 ep r2 ks2 hz td p0 p1 p2 p3 p4 pk2 sl2 hd2 tr2 (fr ++ [h]) 0 v2) ∧ Below w1.heap.size w1 w2) :
    Calls Tryd.prog 20 #[v, .int .u64 1] w fun e w' => (∃ v2, e = .returned v2 ∧ SwV w' s t f l p k2 ep r2 ks2 hz td p0 p1 p2 p3 p4 pk2 sl2 hd2 tr2 (fr ++ [h]) (h % 65536) v2) ∧ Below w.heap.size w w' := by
  obtain ⟨A1, c1, A2, c2, A3, c3, A4, c4, A5, c5, rfl, t1, t2, t3, t4, t5⟩ := hv
  have GN := hide GN
  have NX := hide NX
  have SL := hide (fun w2 => Slot_any h w2 hh)
  obtain ⟨m4, HM4⟩ : ∃ m, Hid (m = ((h, kp) :: td).length) := ⟨_, hide rfl⟩
  rw [← HM4.out] at t4
  have hm4 : (0 : Int) < (m4 : Int) := by rw [HM4.out, List.length_cons]; omega
  have hm4n : 0 < m4 := by omega
  obtain ⟨ad, rfl⟩ := t4.some_ hm4n
  rw [← HM4.out]
  clear hh
  have B0 := ((Below.refl w.heap.size w).alloc (Nat.le_refl _) (.cells #[.slice A1 r.length c1, .slice A2 ks.length c2, .int .i64 s, .int .i64 t, .int .i64 f, .int .i64 l, .int .i64 p, .int .i64 3, .int .u64 ep, .slice A3 hz.length c3, .slice (some ad) m4 c4, .int .i64 q0, .int .i64 q1, .int .i64 q2, .int .i64 q3, .int .i64 q4, .int .i64 3, .int .i64 sl, .int .u64 hd, .int .i64 tr, .slice A5 fr.length c5, .int .i64 0] 51)).alloc (by simp only [World.size_alloc]; omega) (.cells #[.slice none 0 0, .slice none 0 0, .int .i64 0, .int .i64 0, .int .i64 0, .int .i64 0, .int .i64 0, .int .i64 0, .int .u64 0, .slice none 0 0, .slice none 0 0, .int .i64 0, .int .i64 0, .int .i64 0, .int .i64 0, .int .i64 0, .int .i64 0, .int .i64 0, .int .u64 0, .int .i64 0, .slice none 0 0, .int .i64 0] 51)
  have bs := (Blk.new w 51 #[.slice A1 r.length c1, .slice A2 ks.length c2, .int .i64 s, .int .i64 t, .int .i64 f, .int .i64 l, .int .i64 p, .int .i64 3, .int .u64 ep, .slice A3 hz.length c3, .slice (some ad) m4 c4, .int .i64 q0, .int .i64 q1, .int .i64 q2, .int .i64 q3, .int .i64 q4, .int .i64 3, .int .i64 sl, .int .u64 hd, .int .i64 tr, .slice A5 fr.length c5, .int .i64 0]).alloc (.cells #[.slice none 0 0, .slice none 0 0, .int .i64 0, .int .i64 0, .int .i64 0, .int .i64 0, .int .i64 0, .int .i64 0, .int .u64 0, .slice none 0 0, .slice none 0 0, .int .i64 0, .int .i64 0, .int .i64 0, .int .i64 0, .int .i64 0, .int .i64 0, .int .i64 0, .int .u64 0, .int .i64 0, .slice none 0 0, .int .i64 0] 51)
  have bo := Blk.new (w.alloc (.cells #[.slice A1 r.length c1, .slice A2 ks.length c2, .int .i64 s, .int .i64 t, .int .i64 f, .int .i64 l, .int .i64 p, .int .i64 3, .int .u64 ep, .slice A3 hz.length c3, .slice (some ad) m4 c4, .int .i64 q0, .int .i64 q1, .int .i64 q2, .int .i64 q3, .int .i64 q4, .int .i64 3, .int .i64 sl, .int .u64 hd, .int .i64 tr, .slice A5 fr.length c5, .int .i64 0] 51)) 51 #[.slice none 0 0, .slice none 0 0, .int .i64 0, .int .i64 0, .int .i64 0, .int .i64 0, .int .i64 0, .int .i64 0, .int .u64 0, .slice none 0 0, .slice none 0 0, .int .i64 0, .int .i64 0, .int .i64 0, .int .i64 0, .int .i64 0, .int .i64 0, .int .i64 0, .int .u64 0, .int .i64 0, .slice none 0 0, .int .i64 0]
  simp only [World.size_alloc] at bo
  replace t1 := (t1.alloc (.cells #[.slice A1 r.length c1, .slice A2 ks.length c2, .int .i64 s, .int .i64 t, .int .i64 f, .int .i64 l, .int .i64 p, .int .i64 3, .int .u64 ep, .slice A3 hz.length c3, .slice (some ad) m4 c4, .int .i64 q0, .int .i64 q1, .int .i64 q2, .int .i64 q3, .int .i64 q4, .int .i64 3, .int .i64 sl, .int .u64 hd, .int .i64 tr, .slice A5 fr.length c5, .int .i64 0] 51)).alloc (.cells #[.slice none 0 0, .slice none 0 0, .int .i64 0, .int .i64 0, .int .i64 0, .int .i64 0, .int .i64 0, .int .i64 0, .int .u64 0, .slice none 0 0, .slice none 0 0, .int .i64 0, .int .i64 0, .int .i64 0, .int .i64 0, .int .i64 0, .int .i64 0, .int .i64 0, .int .u64 0, .int .i64 0, .slice none 0 0, .int .i64 0] 51)
  replace t2 := (t2.alloc (.cells #[.slice A1 r.length c1, .slice A2 ks.length c2, .int .i64 s, .int .i64 t, .int .i64 f, .int .i64 l, .int .i64 p, .int .i64 3, .int .u64 ep, .slice A3 hz.length c3, .slice (some ad) m4 c4, .int .i64 q0, .int .i64 q1, .int .i64 q2, .int .i64 q3, .int .i64 q4, .int .i64 3, .int .i64 sl, .int .u64 hd, .int .i64 tr, .slice A5 fr.length c5, .int .i64 0] 51)).alloc (.cells #[.slice none 0 0, .slice none 0 0, .int .i64 0, .int .i64 0, .int .i64 0, .int .i64 0, .int .i64 0, .int .i64 0, .int .u64 0, .slice none 0 0, .slice none 0 0, .int .i64 0, .int .i64 0, .int .i64 0, .int .i64 0, .int .i64 0, .int .i64 0, .int .i64 0, .int .u64 0, .int .i64 0, .slice none 0 0, .int .i64 0] 51)
  replace t3 := (t3.alloc (.cells #[.slice A1 r.length c1, .slice A2 ks.length c2, .int .i64 s, .int .i64 t, .int .i64 f, .int .i64 l, .int .i64 p, .int .i64 3, .int .u64 ep, .slice A3 hz.length c3, .slice (some ad) m4 c4, .int .i64 q0, .int .i64 q1, .int .i64 q2, .int .i64 q3, .int .i64 q4, .int .i64 3, .int .i64 sl, .int .u64 hd, .int .i64 tr, .slice A5 fr.length c5, .int .i64 0] 51)).alloc (.cells #[.slice none 0 0, .slice none 0 0, .int .i64 0, .int .i64 0, .int .i64 0, .int .i64 0, .int .i64 0, .int .i64 0, .int .u64 0, .slice none 0 0, .slice none 0 0, .int .i64 0, .int .i64 0, .int .i64 0, .int .i64 0, .int .i64 0, .int .i64 0, .int .i64 0, .int .u64 0, .int .i64 0, .slice none 0 0, .int .i64 0] 51)
  replace t4 := (t4.alloc (.cells #[.slice A1 r.length c1, .slice A2 ks.length c2, .int .i64 s, .int .i64 t, .int .i64 f, .int .i64 l, .int .i64 p, .int .i64 3, .int .u64 ep, .slice A3 hz.length c3, .slice (some ad) m4 c4, .int .i64 q0, .int .i64 q1, .int .i64 q2, .int .i64 q3, .int .i64 q4, .int .i64 3, .int .i64 sl, .int .u64 hd, .int .i64 tr, .slice A5 fr.length c5, .int .i64 0] 51)).alloc (.cells #[.slice none 0 0, .slice none 0 0, .int .i64 0, .int .i64 0, .int .i64 0, .int .i64 0, .int .i64 0, .int .i64 0, .int .u64 0, .slice none 0 0, .slice none 0 0, .int .i64 0, .int .i64 0, .int .i64 0, .int .i64 0, .int .i64 0, .int .i64 0, .int .i64 0, .int .u64 0, .int .i64 0, .slice none 0 0, .int .i64 0] 51)
  replace t5 := (t5.alloc (.cells #[.slice A1 r.length c1, .slice A2 ks.length c2, .int .i64 s, .int .i64 t, .int .i64 f, .int .i64 l, .int .i64 p, .int .i64 3, .int .u64 ep, .slice A3 hz.length c3, .slice (some ad) m4 c4, .int .i64 q0, .int .i64 q1, .int .i64 q2, .int .i64 q3, .int .i64 q4, .int .i64 3, .int .i64 sl, .int .u64 hd, .int .i64 tr, .slice A5 fr.length c5, .int .i64 0] 51)).alloc (.cells #[.slice none 0 0, .slice none 0 0, .int .i64 0, .int .i64 0, .int .i64 0, .int .i64 0, .int .i64 0, .int .i64 0, .int .u64 0, .slice none 0 0, .slice none 0 0, .int .i64 0, .int .i64 0, .int .i64 0, .int .i64 0, .int .i64 0, .int .i64 0, .int .i64 0, .int .u64 0, .int .i64 0, .slice none 0 0, .int .i64 0] 51)
  go_enter Tryd.func20, Tryd.ntmps20
  have ms := fun i => bs.cell i
  skip
  have RP := bs.rangeO 11 [.int .i64 q0, .int .i64 q1, .int .i64 q2, .int .i64 q3, .int .i64 q4, .int .i64 3, .int .i64 sl, .int .u64 hd, .int .i64 tr] (fun j v hv => by have : j < 9 := (List.getElem?_eq_some_iff.1 hv).1; match j, this, hv with | 0, _, h => exact h | 1, _, h => exact h | 2, _, h => exact h | 3, _, h => exact h | 4, _, h => exact h | 5, _, h => exact h | 6, _, h => exact h | 7, _, h => exact h | 8, _, h => exact h)
  go_wp2_with (first | (refine wpList_load_mid rfl 49 (.tmp 48) rfl w.heap.size 11 (by rfl) [.int .i64 q0, .int .i64 q1, .int .i64 q2, .int .i64 q3, .int .i64 q4, .int .i64 3, .int .i64 sl, .int .u64 hd, .int .i64 tr] _ RP Tryd.underlying49 rfl (by kernel_rfl) ?_))
  refine (pstook_3y q0 q1 q2 q3 q4 sl hd tr _).mono ?_
  rintro e w1 ⟨rfl, hb⟩
  replace t1 := t1.below (Nat.le_refl _) hb
  replace t2 := t2.below (Nat.le_refl _) hb
  replace t3 := t3.below (Nat.le_refl _) hb
  replace t4 := t4.below (Nat.le_refl _) hb
  replace t5 := t5.below (Nat.le_refl _) hb
  replace bs := bs.below hb bs.lt
  replace bo := bo.below hb bo.lt
  replace B0 := B0.trans (hb.mono B0.size)
  clear hb ms RP
  go_wp2_with (first | (refine wpList_store_mid rfl 49 (.tmp 52) (.tmp 51) rfl w.heap.size 11 #[.int .i64 q0, .int .i64 q1, .int .i64 q2, .int .i64 q3, .int .i64 q4, .int .i64 0, .int .i64 sl, .int .u64 hd, .int .i64 tr] (by rfl) (by rfl) (bs.thereO 11 (show 11 + 9 ≤ 22 by omega)) (by kernel_rfl) (by kernel_rfl) ?_; replace t1 := (show Tr (w1.setCells w.heap.size 11 [.int .i64 q0, .int .i64 q1, .int .i64 q2, .int .i64 q3, .int .i64 q4, .int .i64 0, .int .i64 sl, .int .u64 hd, .int .i64 tr]) _ _ _ _ _ from by rw [putL_eq]; exact Tr.putL (by decide) _ 11 bs t1); replace t2 := (show Tr (w1.setCells w.heap.size 11 [.int .i64 q0, .int .i64 q1, .int .i64 q2, .int .i64 q3, .int .i64 q4, .int .i64 0, .int .i64 sl, .int .u64 hd, .int .i64 tr]) _ _ _ _ _ from by rw [putL_eq]; exact Tr.putL (by decide) _ 11 bs t2); replace t3 := (show Tr (w1.setCells w.heap.size 11 [.int .i64 q0, .int .i64 q1, .int .i64 q2, .int .i64 q3, .int .i64 q4, .int .i64 0, .int .i64 sl, .int .u64 hd, .int .i64 tr]) _ _ _ _ _ from by rw [putL_eq]; exact Tr.putL (by decide) _ 11 bs t3); replace t4 := (show Tr (w1.setCells w.heap.size 11 [.int .i64 q0, .int .i64 q1, .int .i64 q2, .int .i64 q3, .int .i64 q4, .int .i64 0, .int .i64 sl, .int .u64 hd, .int .i64 tr]) _ _ _ _ _ from by rw [putL_eq]; exact Tr.putL (by decide) _ 11 bs t4); replace t5 := (show Tr (w1.setCells w.heap.size 11 [.int .i64 q0, .int .i64 q1, .int .i64 q2, .int .i64 q3, .int .i64 q4, .int .i64 0, .int .i64 sl, .int .u64 hd, .int .i64 tr]) _ _ _ _ _ from by rw [putL_eq]; exact Tr.putL (by decide) _ 11 bs t5); replace bo := (show Blk (w1.setCells w.heap.size 11 [.int .i64 q0, .int .i64 q1, .int .i64 q2, .int .i64 q3, .int .i64 q4, .int .i64 0, .int .i64 sl, .int .u64 hd, .int .i64 tr]) _ _ _ from by rw [putL_eq]; exact Blk.offL (by omega) _ _ 11 bo); replace B0 := (show Below w.heap.size w (w1.setCells w.heap.size 11 [.int .i64 q0, .int .i64 q1, .int .i64 q2, .int .i64 q3, .int .i64 q4, .int .i64 0, .int .i64 sl, .int .u64 hd, .int .i64 tr]) from by rw [putL_eq]; exact Below.putL (Nat.le_refl _) _ _ 11 B0); replace bs := (show Blk (w1.setCells w.heap.size 11 [.int .i64 q0, .int .i64 q1, .int .i64 q2, .int .i64 q3, .int .i64 q4, .int .i64 0, .int .i64 sl, .int .u64 hd, .int .i64 tr]) w.heap.size 51 #[.slice A1 r.length c1, .slice A2 ks.length c2, .int .i64 s, .int .i64 t, .int .i64 f, .int .i64 l, .int .i64 p, .int .i64 3, .int .u64 ep, .slice A3 hz.length c3, .slice (some ad) m4 c4, .int .i64 q0, .int .i64 q1, .int .i64 q2, .int .i64 q3, .int .i64 q4, .int .i64 0, .int .i64 sl, .int .u64 hd, .int .i64 tr, .slice A5 fr.length c5, .int .i64 0] from by rw [putL_eq]; have h9 := Blk.putL [.int .i64 q0, .int .i64 q1, .int .i64 q2, .int .i64 q3, .int .i64 q4, .int .i64 0, .int .i64 sl, .int .u64 hd, .int .i64 tr] _ _ 11 bs; simpa only [setL, List.setIfInBounds_toArray, List.set_cons_zero, List.set_cons_succ] using h9); generalize (w1.setCells w.heap.size 11 [.int .i64 q0, .int .i64 q1, .int .i64 q2, .int .i64 q3, .int .i64 q4, .int .i64 0, .int .i64 sl, .int .u64 hd, .int .i64 tr]) = w2 at *; have RP := bs.rangeO 11 [.int .i64 q0, .int .i64 q1, .int .i64 q2, .int .i64 q3, .int .i64 q4, .int .i64 0, .int .i64 sl, .int .u64 hd, .int .i64 tr] (fun j v hv => by have : j < 9 := (List.getElem?_eq_some_iff.1 hv).1; match j, this, hv with | 0, _, h => exact h | 1, _, h => exact h | 2, _, h => exact h | 3, _, h => exact h | 4, _, h => exact h | 5, _, h => exact h | 6, _, h => exact h | 7, _, h => exact h | 8, _, h => exact h)) | (refine wpList_load_mid rfl 49 (.tmp 53) rfl w.heap.size 11 (by rfl) [.int .i64 q0, .int .i64 q1, .int .i64 q2, .int .i64 q3, .int .i64 q4, .int .i64 0, .int .i64 sl, .int .u64 hd, .int .i64 tr] _ RP Tryd.underlying49 rfl (by kernel_rfl) ?_))
  refine (psdone_0 q0 q1 q2 q3 q4 sl hd tr _).mono ?_
  rintro e w3 ⟨rfl, hb⟩
  replace t1 := t1.below (Nat.le_refl _) hb
  replace t2 := t2.below (Nat.le_refl _) hb
  replace t3 := t3.below (Nat.le_refl _) hb
  replace t4 := t4.below (Nat.le_refl _) hb
  replace t5 := t5.below (Nat.le_refl _) hb
  replace bs := bs.below hb bs.lt
  replace bo := bo.below hb bo.lt
  replace B0 := B0.trans (hb.mono B0.size)
  clear hb RP
  have hc4 := hide t4.cap
  by_cases hc41 : c4 = 1
  · subst hc41
    obtain rfl : m4 = 1 := by have := hc4.out; omega
    obtain rfl : td = [] := by have := HM4.out; rw [List.length_cons] at this; exact List.eq_nil_of_length_eq_zero (by omega)
    have tn : Tr w3 82 2 (.slice (some ad) 0 0) 0 (ones []) := (by have h9 := t4.cut (k := 1) (Nat.le_refl 1); rw [if_pos rfl] at h9; exact h9.of_eq (by simp [ones]))
    have z0 := t4.first
    have z1 := t4.second
    have m3 := fun i => bs.cell i
    have hg3 := hide bs.lt
    have bk := Blk.new w3 82 #[.int .u64 h, .bool kp]
    replace t1 := t1.alloc (.cells #[.int .u64 h, .bool kp] 82)
    replace t2 := t2.alloc (.cells #[.int .u64 h, .bool kp] 82)
    replace t3 := t3.alloc (.cells #[.int .u64 h, .bool kp] 82)
    replace t5 := t5.alloc (.cells #[.int .u64 h, .bool kp] 82)
    replace tn := tn.alloc (.cells #[.int .u64 h, .bool kp] 82)
    replace bs := bs.alloc (.cells #[.int .u64 h, .bool kp] 82)
    replace bo := bo.alloc (.cells #[.int .u64 h, .bool kp] 82)
    replace B0 := B0.alloc B0.size (.cells #[.int .u64 h, .bool kp] 82)
    have m2 := fun i => bs.cell i
    have z2 := fun i => bs.frozen i
    replace t1 := t1.set_ bs (by decide) 10 (.slice (some ad) 0 0)
    replace t2 := t2.set_ bs (by decide) 10 (.slice (some ad) 0 0)
    replace t3 := t3.set_ bs (by decide) 10 (.slice (some ad) 0 0)
    replace t5 := t5.set_ bs (by decide) 10 (.slice (some ad) 0 0)
    replace tn := tn.set_ bs (by decide) 10 (.slice (some ad) 0 0)
    replace bo := bo.far (p := ⟨w.heap.size, 10, none⟩) (by show w.heap.size + 1 ≠ w.heap.size; omega) (.slice (some ad) 0 0)
    replace bk := bk.far (p := ⟨w.heap.size, 10, none⟩) (by have := hg3.out; show w3.heap.size ≠ w.heap.size; omega) (.slice (some ad) 0 0)
    replace B0 := B0.setCell (p := ⟨w.heap.size, 10, none⟩) (Nat.le_refl _) (.slice (some ad) 0 0)
    have b3 := bs.set_ 10 (.slice (some ad) 0 0)
    simp only [List.setIfInBounds_toArray, List.set_cons_zero, List.set_cons_succ] at b3
    have mk := fun i => bk.cell i
    go_wp2_with (first | (refine wpList_load_mid rfl 51 (.tmp 2) rfl w.heap.size 0 (by rfl) [.slice A1 r.length c1, .slice A2 ks.length c2, .int .i64 s, .int .i64 t, .int .i64 f, .int .i64 l, .int .i64 p, .int .i64 3, .int .u64 ep, .slice A3 hz.length c3, .slice (some ad) 0 0, .int .i64 q0, .int .i64 q1, .int .i64 q2, .int .i64 q3, .int .i64 q4, .int .i64 0, .int .i64 sl, .int .u64 hd, .int .i64 tr, .slice A5 fr.length c5, .int .i64 0] _ b3.range Tryd.underlying51 rfl (by kernel_rfl) ?_))
    clear m2 z2 mk bs m3 z0 z1 t4
    generalize (w3.alloc (.cells #[.int .u64 h, .bool kp] 82)).setCell ⟨w.heap.size, 10, none⟩ (.slice (some ad) 0 0) = w4 at *
    have hsv : SwV w4 s t f l p 3 ep r ks hz [] q0 q1 q2 q3 q4 0 sl hd tr fr 0 (.agg #[.slice A1 r.length c1, .slice A2 ks.length c2, .int .i64 s, .int .i64 t, .int .i64 f, .int .i64 l, .int .i64 p, .int .i64 3, .int .u64 ep, .slice A3 hz.length c3, .slice (some ad) 0 0, .int .i64 q0, .int .i64 q1, .int .i64 q2, .int .i64 q3, .int .i64 q4, .int .i64 0, .int .i64 sl, .int .u64 hd, .int .i64 tr, .slice A5 fr.length c5, .int .i64 0]) := (by exact ⟨A1, c1, A2, c2, A3, c3, _, _, A5, c5, rfl, t1, t2, t3, tn, t5⟩)
    clear t1 t2 t3 tn t5
    refine (GN.out _ _ hsv).mono ?_
    rintro e w5 ⟨⟨v5, rfl, hv5⟩, hb⟩
    clear hsv
    replace b3 := b3.below hb b3.lt
    replace bo := bo.below hb bo.lt
    replace bk := bk.below hb bk.lt
    replace B0 := B0.trans (hb.mono B0.size)
    clear hb
    go_wp2_with fail
    refine (NX.out _ _ hv5).mono ?_
    rintro e w6 ⟨⟨v6, rfl, hv6⟩, hb⟩
    clear hv5
    replace b3 := b3.below hb b3.lt
    replace bo := bo.below hb bo.lt
    replace bk := bk.below hb bk.lt
    replace B0 := B0.trans (hb.mono B0.size)
    clear hb
    generalize hff : fr ++ [h] = ff at *
    replace hff := hide hff
    obtain ⟨B1, d1, B2, d2, B3, d3, B4, d4, B5, d5, rfl, t1, t2, t3, t4, t5⟩ := hv6
    simp only [List.length_nil] at t4 ⊢
    go_wp2_with (first | (refine wpList_store_mid rfl 51 (.tmp 2) (.tmp 67) rfl w.heap.size 0 #[.slice B1 r2.length d1, .slice B2 ks2.length d2, .int .i64 s, .int .i64 t, .int .i64 f, .int .i64 l, .int .i64 p, .int .i64 k2, .int .u64 ep, .slice B3 hz.length d3, .slice B4 0 d4, .int .i64 p0, .int .i64 p1, .int .i64 p2, .int .i64 p3, .int .i64 p4, .int .i64 pk2, .int .i64 sl2, .int .u64 hd2, .int .i64 tr2, .slice B5 ff.length d5, .int .i64 0] (by rfl) (by rfl) (b3.there rfl) (by kernel_rfl) (by kernel_rfl) ?_; replace t1 := (show Tr (w6.setCells w.heap.size 0 [.slice B1 r2.length d1, .slice B2 ks2.length d2, .int .i64 s, .int .i64 t, .int .i64 f, .int .i64 l, .int .i64 p, .int .i64 k2, .int .u64 ep, .slice B3 hz.length d3, .slice B4 0 d4, .int .i64 p0, .int .i64 p1, .int .i64 p2, .int .i64 p3, .int .i64 p4, .int .i64 pk2, .int .i64 sl2, .int .u64 hd2, .int .i64 tr2, .slice B5 ff.length d5, .int .i64 0]) _ _ _ _ _ from by rw [putL_eq]; exact Tr.putL (by decide) _ 0 b3 t1); replace t2 := (show Tr (w6.setCells w.heap.size 0 [.slice B1 r2.length d1, .slice B2 ks2.length d2, .int .i64 s, .int .i64 t, .int .i64 f, .int .i64 l, .int .i64 p, .int .i64 k2, .int .u64 ep, .slice B3 hz.length d3, .slice B4 0 d4, .int .i64 p0, .int .i64 p1, .int .i64 p2, .int .i64 p3, .int .i64 p4, .int .i64 pk2, .int .i64 sl2, .int .u64 hd2, .int .i64 tr2, .slice B5 ff.length d5, .int .i64 0]) _ _ _ _ _ from by rw [putL_eq]; exact Tr.putL (by decide) _ 0 b3 t2); replace t3 := (show Tr (w6.setCells w.heap.size 0 [.slice B1 r2.length d1, .slice B2 ks2.length d2, .int .i64 s, .int .i64 t, .int .i64 f, .int .i64 l, .int .i64 p, .int .i64 k2, .int .u64 ep, .slice B3 hz.length d3, .slice B4 0 d4, .int .i64 p0, .int .i64 p1, .int .i64 p2, .int .i64 p3, .int .i64 p4, .int .i64 pk2, .int .i64 sl2, .int .u64 hd2, .int .i64 tr2, .slice B5 ff.length d5, .int .i64 0]) _ _ _ _ _ from by rw [putL_eq]; exact Tr.putL (by decide) _ 0 b3 t3); replace t4 := (show Tr (w6.setCells w.heap.size 0 [.slice B1 r2.length d1, .slice B2 ks2.length d2, .int .i64 s, .int .i64 t, .int .i64 f, .int .i64 l, .int .i64 p, .int .i64 k2, .int .u64 ep, .slice B3 hz.length d3, .slice B4 0 d4, .int .i64 p0, .int .i64 p1, .int .i64 p2, .int .i64 p3, .int .i64 p4, .int .i64 pk2, .int .i64 sl2, .int .u64 hd2, .int .i64 tr2, .slice B5 ff.length d5, .int .i64 0]) _ _ _ _ _ from by rw [putL_eq]; exact Tr.putL (by decide) _ 0 b3 t4); replace t5 := (show Tr (w6.setCells w.heap.size 0 [.slice B1 r2.length d1, .slice B2 ks2.length d2, .int .i64 s, .int .i64 t, .int .i64 f, .int .i64 l, .int .i64 p, .int .i64 k2, .int .u64 ep, .slice B3 hz.length d3, .slice B4 0 d4, .int .i64 p0, .int .i64 p1, .int .i64 p2, .int .i64 p3, .int .i64 p4, .int .i64 pk2, .int .i64 sl2, .int .u64 hd2, .int .i64 tr2, .slice B5 ff.length d5, .int .i64 0]) _ _ _ _ _ from by rw [putL_eq]; exact Tr.putL (by decide) _ 0 b3 t5); replace bo := (show Blk (w6.setCells w.heap.size 0 [.slice B1 r2.length d1, .slice B2 ks2.length d2, .int .i64 s, .int .i64 t, .int .i64 f, .int .i64 l, .int .i64 p, .int .i64 k2, .int .u64 ep, .slice B3 hz.length d3, .slice B4 0 d4, .int .i64 p0, .int .i64 p1, .int .i64 p2, .int .i64 p3, .int .i64 p4, .int .i64 pk2, .int .i64 sl2, .int .u64 hd2, .int .i64 tr2, .slice B5 ff.length d5, .int .i64 0]) _ _ _ from by rw [putL_eq]; exact Blk.offL (by omega) _ _ 0 bo); replace bk := (show Blk (w6.setCells w.heap.size 0 [.slice B1 r2.length d1, .slice B2 ks2.length d2, .int .i64 s, .int .i64 t, .int .i64 f, .int .i64 l, .int .i64 p, .int .i64 k2, .int .u64 ep, .slice B3 hz.length d3, .slice B4 0 d4, .int .i64 p0, .int .i64 p1, .int .i64 p2, .int .i64 p3, .int .i64 p4, .int .i64 pk2, .int .i64 sl2, .int .u64 hd2, .int .i64 tr2, .slice B5 ff.length d5, .int .i64 0]) _ _ _ from by rw [putL_eq]; exact Blk.offL (by have := hg3.out; omega) _ _ 0 bk); replace B0 := (show Below w.heap.size w (w6.setCells w.heap.size 0 [.slice B1 r2.length d1, .slice B2 ks2.length d2, .int .i64 s, .int .i64 t, .int .i64 f, .int .i64 l, .int .i64 p, .int .i64 k2, .int .u64 ep, .slice B3 hz.length d3, .slice B4 0 d4, .int .i64 p0, .int .i64 p1, .int .i64 p2, .int .i64 p3, .int .i64 p4, .int .i64 pk2, .int .i64 sl2, .int .u64 hd2, .int .i64 tr2, .slice B5 ff.length d5, .int .i64 0]) from by rw [putL_eq]; exact Below.putL (Nat.le_refl _) _ _ 0 B0); replace b3 := (show Blk (w6.setCells w.heap.size 0 [.slice B1 r2.length d1, .slice B2 ks2.length d2, .int .i64 s, .int .i64 t, .int .i64 f, .int .i64 l, .int .i64 p, .int .i64 k2, .int .u64 ep, .slice B3 hz.length d3, .slice B4 0 d4, .int .i64 p0, .int .i64 p1, .int .i64 p2, .int .i64 p3, .int .i64 p4, .int .i64 pk2, .int .i64 sl2, .int .u64 hd2, .int .i64 tr2, .slice B5 ff.length d5, .int .i64 0]) w.heap.size 51 #[.slice B1 r2.length d1, .slice B2 ks2.length d2, .int .i64 s, .int .i64 t, .int .i64 f, .int .i64 l, .int .i64 p, .int .i64 k2, .int .u64 ep, .slice B3 hz.length d3, .slice B4 0 d4, .int .i64 p0, .int .i64 p1, .int .i64 p2, .int .i64 p3, .int .i64 p4, .int .i64 pk2, .int .i64 sl2, .int .u64 hd2, .int .i64 tr2, .slice B5 ff.length d5, .int .i64 0] from by rw [putL_eq]; have h9 := Blk.putL [.slice B1 r2.length d1, .slice B2 ks2.length d2, .int .i64 s, .int .i64 t, .int .i64 f, .int .i64 l, .int .i64 p, .int .i64 k2, .int .u64 ep, .slice B3 hz.length d3, .slice B4 0 d4, .int .i64 p0, .int .i64 p1, .int .i64 p2, .int .i64 p3, .int .i64 p4, .int .i64 pk2, .int .i64 sl2, .int .u64 hd2, .int .i64 tr2, .slice B5 ff.length d5, .int .i64 0] _ _ 0 b3; simpa only [setL, List.setIfInBounds_toArray, List.set_cons_zero, List.set_cons_succ] using h9); generalize (w6.setCells w.heap.size 0 [.slice B1 r2.length d1, .slice B2 ks2.length d2, .int .i64 s, .int .i64 t, .int .i64 f, .int .i64 l, .int .i64 p, .int .i64 k2, .int .u64 ep, .slice B3 hz.length d3, .slice B4 0 d4, .int .i64 p0, .int .i64 p1, .int .i64 p2, .int .i64 p3, .int .i64 p4, .int .i64 pk2, .int .i64 sl2, .int .u64 hd2, .int .i64 tr2, .slice B5 ff.length d5, .int .i64 0]) = w7 at *; have mk := fun i => bk.cell i))
    refine (SL.out _).mono ?_
    rintro e w8 ⟨rfl, rfl⟩
    clear mk bk
    have ms := fun i => b3.cell i
    have zs := fun i => b3.frozen i
    replace t1 := t1.set_ b3 (by decide) 21 (.int .i64 (h % 65536))
    replace t2 := t2.set_ b3 (by decide) 21 (.int .i64 (h % 65536))
    replace t3 := t3.set_ b3 (by decide) 21 (.int .i64 (h % 65536))
    replace t4 := t4.set_ b3 (by decide) 21 (.int .i64 (h % 65536))
    replace t5 := t5.set_ b3 (by decide) 21 (.int .i64 (h % 65536))
    replace bo := bo.far (p := ⟨w.heap.size, 21, none⟩) (by show w.heap.size + 1 ≠ w.heap.size; omega) (.int .i64 (h % 65536))
    replace B0 := B0.setCell (p := ⟨w.heap.size, 21, none⟩) (Nat.le_refl _) (.int .i64 (h % 65536))
    have bs := b3.set_ 21 (.int .i64 (h % 65536))
    simp only [List.setIfInBounds_toArray, List.set_cons_zero, List.set_cons_succ] at bs
    go_wp2_with (first | (refine wpList_load_mid rfl 51 (.tmp 2) rfl w.heap.size 0 (by rfl) [.slice B1 r2.length d1, .slice B2 ks2.length d2, .int .i64 s, .int .i64 t, .int .i64 f, .int .i64 l, .int .i64 p, .int .i64 k2, .int .u64 ep, .slice B3 hz.length d3, .slice B4 0 d4, .int .i64 p0, .int .i64 p1, .int .i64 p2, .int .i64 p3, .int .i64 p4, .int .i64 pk2, .int .i64 sl2, .int .u64 hd2, .int .i64 tr2, .slice B5 ff.length d5, .int .i64 (h % 65536)] _ bs.range Tryd.underlying51 rfl (by kernel_rfl) ?_) | (refine wpList_store_mid rfl 51 (.tmp 4) (.tmp 72) rfl (w.heap.size + 1) 0 #[.slice B1 r2.length d1, .slice B2 ks2.length d2, .int .i64 s, .int .i64 t, .int .i64 f, .int .i64 l, .int .i64 p, .int .i64 k2, .int .u64 ep, .slice B3 hz.length d3, .slice B4 0 d4, .int .i64 p0, .int .i64 p1, .int .i64 p2, .int .i64 p3, .int .i64 p4, .int .i64 pk2, .int .i64 sl2, .int .u64 hd2, .int .i64 tr2, .slice B5 ff.length d5, .int .i64 (h % 65536)] (by rfl) (by rfl) (bo.there rfl) (by kernel_rfl) (by kernel_rfl) ?_))
    replace t1 := (show Tr ((w7.setCell ⟨w.heap.size, 21, none⟩ (.int .i64 (h % 65536))).setCells (w.heap.size + 1) 0 [.slice B1 r2.length d1, .slice B2 ks2.length d2, .int .i64 s, .int .i64 t, .int .i64 f, .int .i64 l, .int .i64 p, .int .i64 k2, .int .u64 ep, .slice B3 hz.length d3, .slice B4 0 d4, .int .i64 p0, .int .i64 p1, .int .i64 p2, .int .i64 p3, .int .i64 p4, .int .i64 pk2, .int .i64 sl2, .int .u64 hd2, .int .i64 tr2, .slice B5 ff.length d5, .int .i64 (h % 65536)]) _ _ _ _ _ from by rw [putL_eq]; exact Tr.putL (by decide) _ 0 bo t1)
    replace t2 := (show Tr ((w7.setCell ⟨w.heap.size, 21, none⟩ (.int .i64 (h % 65536))).setCells (w.heap.size + 1) 0 [.slice B1 r2.length d1, .slice B2 ks2.length d2, .int .i64 s, .int .i64 t, .int .i64 f, .int .i64 l, .int .i64 p, .int .i64 k2, .int .u64 ep, .slice B3 hz.length d3, .slice B4 0 d4, .int .i64 p0, .int .i64 p1, .int .i64 p2, .int .i64 p3, .int .i64 p4, .int .i64 pk2, .int .i64 sl2, .int .u64 hd2, .int .i64 tr2, .slice B5 ff.length d5, .int .i64 (h % 65536)]) _ _ _ _ _ from by rw [putL_eq]; exact Tr.putL (by decide) _ 0 bo t2)
    replace t3 := (show Tr ((w7.setCell ⟨w.heap.size, 21, none⟩ (.int .i64 (h % 65536))).setCells (w.heap.size + 1) 0 [.slice B1 r2.length d1, .slice B2 ks2.length d2, .int .i64 s, .int .i64 t, .int .i64 f, .int .i64 l, .int .i64 p, .int .i64 k2, .int .u64 ep, .slice B3 hz.length d3, .slice B4 0 d4, .int .i64 p0, .int .i64 p1, .int .i64 p2, .int .i64 p3, .int .i64 p4, .int .i64 pk2, .int .i64 sl2, .int .u64 hd2, .int .i64 tr2, .slice B5 ff.length d5, .int .i64 (h % 65536)]) _ _ _ _ _ from by rw [putL_eq]; exact Tr.putL (by decide) _ 0 bo t3)
    replace t4 := (show Tr ((w7.setCell ⟨w.heap.size, 21, none⟩ (.int .i64 (h % 65536))).setCells (w.heap.size + 1) 0 [.slice B1 r2.length d1, .slice B2 ks2.length d2, .int .i64 s, .int .i64 t, .int .i64 f, .int .i64 l, .int .i64 p, .int .i64 k2, .int .u64 ep, .slice B3 hz.length d3, .slice B4 0 d4, .int .i64 p0, .int .i64 p1, .int .i64 p2, .int .i64 p3, .int .i64 p4, .int .i64 pk2, .int .i64 sl2, .int .u64 hd2, .int .i64 tr2, .slice B5 ff.length d5, .int .i64 (h % 65536)]) _ _ _ _ _ from by rw [putL_eq]; exact Tr.putL (by decide) _ 0 bo t4)
    replace t5 := (show Tr ((w7.setCell ⟨w.heap.size, 21, none⟩ (.int .i64 (h % 65536))).setCells (w.heap.size + 1) 0 [.slice B1 r2.length d1, .slice B2 ks2.length d2, .int .i64 s, .int .i64 t, .int .i64 f, .int .i64 l, .int .i64 p, .int .i64 k2, .int .u64 ep, .slice B3 hz.length d3, .slice B4 0 d4, .int .i64 p0, .int .i64 p1, .int .i64 p2, .int .i64 p3, .int .i64 p4, .int .i64 pk2, .int .i64 sl2, .int .u64 hd2, .int .i64 tr2, .slice B5 ff.length d5, .int .i64 (h % 65536)]) _ _ _ _ _ from by rw [putL_eq]; exact Tr.putL (by decide) _ 0 bo t5)
    replace B0 := (show Below w.heap.size w ((w7.setCell ⟨w.heap.size, 21, none⟩ (.int .i64 (h % 65536))).setCells (w.heap.size + 1) 0 [.slice B1 r2.length d1, .slice B2 ks2.length d2, .int .i64 s, .int .i64 t, .int .i64 f, .int .i64 l, .int .i64 p, .int .i64 k2, .int .u64 ep, .slice B3 hz.length d3, .slice B4 0 d4, .int .i64 p0, .int .i64 p1, .int .i64 p2, .int .i64 p3, .int .i64 p4, .int .i64 pk2, .int .i64 sl2, .int .u64 hd2, .int .i64 tr2, .slice B5 ff.length d5, .int .i64 (h % 65536)]) from by rw [putL_eq]; exact Below.putL (by omega) _ _ 0 B0)
    replace bo := (show Blk ((w7.setCell ⟨w.heap.size, 21, none⟩ (.int .i64 (h % 65536))).setCells (w.heap.size + 1) 0 [.slice B1 r2.length d1, .slice B2 ks2.length d2, .int .i64 s, .int .i64 t, .int .i64 f, .int .i64 l, .int .i64 p, .int .i64 k2, .int .u64 ep, .slice B3 hz.length d3, .slice B4 0 d4, .int .i64 p0, .int .i64 p1, .int .i64 p2, .int .i64 p3, .int .i64 p4, .int .i64 pk2, .int .i64 sl2, .int .u64 hd2, .int .i64 tr2, .slice B5 ff.length d5, .int .i64 (h % 65536)]) (w.heap.size + 1) 51 #[.slice B1 r2.length d1, .slice B2 ks2.length d2, .int .i64 s, .int .i64 t, .int .i64 f, .int .i64 l, .int .i64 p, .int .i64 k2, .int .u64 ep, .slice B3 hz.length d3, .slice B4 0 d4, .int .i64 p0, .int .i64 p1, .int .i64 p2, .int .i64 p3, .int .i64 p4, .int .i64 pk2, .int .i64 sl2, .int .u64 hd2, .int .i64 tr2, .slice B5 ff.length d5, .int .i64 (h % 65536)] from by rw [putL_eq]; have h9 := Blk.putL [.slice B1 r2.length d1, .slice B2 ks2.length d2, .int .i64 s, .int .i64 t, .int .i64 f, .int .i64 l, .int .i64 p, .int .i64 k2, .int .u64 ep, .slice B3 hz.length d3, .slice B4 0 d4, .int .i64 p0, .int .i64 p1, .int .i64 p2, .int .i64 p3, .int .i64 p4, .int .i64 pk2, .int .i64 sl2, .int .u64 hd2, .int .i64 tr2, .slice B5 ff.length d5, .int .i64 (h % 65536)] _ _ 0 bo; simpa only [setL, List.setIfInBounds_toArray, List.set_cons_zero, List.set_cons_succ] using h9)
    clear bs ms zs b3
    generalize (w7.setCell ⟨w.heap.size, 21, none⟩ (.int .i64 (h % 65536))).setCells (w.heap.size + 1) 0 [.slice B1 r2.length d1, .slice B2 ks2.length d2, .int .i64 s, .int .i64 t, .int .i64 f, .int .i64 l, .int .i64 p, .int .i64 k2, .int .u64 ep, .slice B3 hz.length d3, .slice B4 0 d4, .int .i64 p0, .int .i64 p1, .int .i64 p2, .int .i64 p3, .int .i64 p4, .int .i64 pk2, .int .i64 sl2, .int .u64 hd2, .int .i64 tr2, .slice B5 ff.length d5, .int .i64 (h % 65536)] = w12 at *
    have hres : (loadVar 51 ⟨w.heap.size + 1, 0, none⟩).run Tryd.prog w12 = .ok (.agg #[.slice B1 r2.length d1, .slice B2 ks2.length d2, .int .i64 s, .int .i64 t, .int .i64 f, .int .i64 l, .int .i64 p, .int .i64 k2, .int .u64 ep, .slice B3 hz.length d3, .slice B4 0 d4, .int .i64 p0, .int .i64 p1, .int .i64 p2, .int .i64 p3, .int .i64 p4, .int .i64 pk2, .int .i64 sl2, .int .u64 hd2, .int .i64 tr2, .slice B5 ff.length d5, .int .i64 (h % 65536)]) w12 := run_loadVar_mid w12 _ 0 _ [.slice B1 r2.length d1, .slice B2 ks2.length d2, .int .i64 s, .int .i64 t, .int .i64 f, .int .i64 l, .int .i64 p, .int .i64 k2, .int .u64 ep, .slice B3 hz.length d3, .slice B4 0 d4, .int .i64 p0, .int .i64 p1, .int .i64 p2, .int .i64 p3, .int .i64 p4, .int .i64 pk2, .int .i64 sl2, .int .u64 hd2, .int .i64 tr2, .slice B5 ff.length d5, .int .i64 (h % 65536)] _ bo.range Tryd.underlying51 rfl (by kernel_rfl)
    refine bodyPost_ret (v := .agg #[.slice B1 r2.length d1, .slice B2 ks2.length d2, .int .i64 s, .int .i64 t, .int .i64 f, .int .i64 l, .int .i64 p, .int .i64 k2, .int .u64 ep, .slice B3 hz.length d3, .slice B4 0 d4, .int .i64 p0, .int .i64 p1, .int .i64 p2, .int .i64 p3, .int .i64 p4, .int .i64 pk2, .int .i64 sl2, .int .u64 hd2, .int .i64 tr2, .slice B5 ff.length d5, .int .i64 (h % 65536)]) (by simp [results, Tryd.results20, Act.put, asAddr, hres]) rfl (by have hf := hff.out; subst hf; exact ⟨⟨_, rfl, _, _, _, _, _, _, _, _, _, _, rfl, t1, t2, t3, t4, t5⟩, B0⟩)
  · have tn : Tr w3 82 2 (.slice (some ⟨ad.block, ad.off + 2, none⟩) (m4 - 1) (c4 - 1)) (m4 - 1) (ones td) := (by have h9 := t4.cut (k := 1) hm4n; rw [if_neg hc41] at h9; exact h9.of_eq (by simp [ones]))
    have h14 : (1 : Int) ≤ (m4 : Int) := by omega
    have h14n : 1 ≤ m4 := hm4n
    have z0 := t4.first
    have z1 := t4.second
    have m3 := fun i => bs.cell i
    have hg3 := hide bs.lt
    have bk := Blk.new w3 82 #[.int .u64 h, .bool kp]
    replace t1 := t1.alloc (.cells #[.int .u64 h, .bool kp] 82)
    replace t2 := t2.alloc (.cells #[.int .u64 h, .bool kp] 82)
    replace t3 := t3.alloc (.cells #[.int .u64 h, .bool kp] 82)
    replace t5 := t5.alloc (.cells #[.int .u64 h, .bool kp] 82)
    replace tn := tn.alloc (.cells #[.int .u64 h, .bool kp] 82)
    replace bs := bs.alloc (.cells #[.int .u64 h, .bool kp] 82)
    replace bo := bo.alloc (.cells #[.int .u64 h, .bool kp] 82)
    replace B0 := B0.alloc B0.size (.cells #[.int .u64 h, .bool kp] 82)
    have m2 := fun i => bs.cell i
    have z2 := fun i => bs.frozen i
    replace t1 := t1.set_ bs (by decide) 10 (.slice (some ⟨ad.block, ad.off + 2, none⟩) (m4 - 1) (c4 - 1))
    replace t2 := t2.set_ bs (by decide) 10 (.slice (some ⟨ad.block, ad.off + 2, none⟩) (m4 - 1) (c4 - 1))
    replace t3 := t3.set_ bs (by decide) 10 (.slice (some ⟨ad.block, ad.off + 2, none⟩) (m4 - 1) (c4 - 1))
    replace t5 := t5.set_ bs (by decide) 10 (.slice (some ⟨ad.block, ad.off + 2, none⟩) (m4 - 1) (c4 - 1))
    replace tn := tn.set_ bs (by decide) 10 (.slice (some ⟨ad.block, ad.off + 2, none⟩) (m4 - 1) (c4 - 1))
    replace bo := bo.far (p := ⟨w.heap.size, 10, none⟩) (by show w.heap.size + 1 ≠ w.heap.size; omega) (.slice (some ⟨ad.block, ad.off + 2, none⟩) (m4 - 1) (c4 - 1))
    replace bk := bk.far (p := ⟨w.heap.size, 10, none⟩) (by have := hg3.out; show w3.heap.size ≠ w.heap.size; omega) (.slice (some ⟨ad.block, ad.off + 2, none⟩) (m4 - 1) (c4 - 1))
    replace B0 := B0.setCell (p := ⟨w.heap.size, 10, none⟩) (Nat.le_refl _) (.slice (some ⟨ad.block, ad.off + 2, none⟩) (m4 - 1) (c4 - 1))
    have b3 := bs.set_ 10 (.slice (some ⟨ad.block, ad.off + 2, none⟩) (m4 - 1) (c4 - 1))
    simp only [List.setIfInBounds_toArray, List.set_cons_zero, List.set_cons_succ] at b3
    have mk := fun i => bk.cell i
    go_wp2_with (first | (refine wpList_load_mid rfl 51 (.tmp 2) rfl w.heap.size 0 (by rfl) [.slice A1 r.length c1, .slice A2 ks.length c2, .int .i64 s, .int .i64 t, .int .i64 f, .int .i64 l, .int .i64 p, .int .i64 3, .int .u64 ep, .slice A3 hz.length c3, .slice (some ⟨ad.block, ad.off + 2, none⟩) (m4 - 1) (c4 - 1), .int .i64 q0, .int .i64 q1, .int .i64 q2, .int .i64 q3, .int .i64 q4, .int .i64 0, .int .i64 sl, .int .u64 hd, .int .i64 tr, .slice A5 fr.length c5, .int .i64 0] _ b3.range Tryd.underlying51 rfl (by kernel_rfl) ?_))
    clear m2 z2 mk bs m3 z0 z1 t4
    generalize (w3.alloc (.cells #[.int .u64 h, .bool kp] 82)).setCell ⟨w.heap.size, 10, none⟩ (.slice (some ⟨ad.block, ad.off + 2, none⟩) (m4 - 1) (c4 - 1)) = w4 at *
    have hsv : SwV w4 s t f l p 3 ep r ks hz td q0 q1 q2 q3 q4 0 sl hd tr fr 0 (.agg #[.slice A1 r.length c1, .slice A2 ks.length c2, .int .i64 s, .int .i64 t, .int .i64 f, .int .i64 l, .int .i64 p, .int .i64 3, .int .u64 ep, .slice A3 hz.length c3, .slice (some ⟨ad.block, ad.off + 2, none⟩) (m4 - 1) (c4 - 1), .int .i64 q0, .int .i64 q1, .int .i64 q2, .int .i64 q3, .int .i64 q4, .int .i64 0, .int .i64 sl, .int .u64 hd, .int .i64 tr, .slice A5 fr.length c5, .int .i64 0]) := (by have hm : m4 - 1 = td.length := (by have := HM4.out; rw [List.length_cons] at this; omega); rw [hm] at tn ⊢; exact ⟨A1, c1, A2, c2, A3, c3, _, _, A5, c5, rfl, t1, t2, t3, tn, t5⟩)
    clear t1 t2 t3 tn t5
    refine (GN.out _ _ hsv).mono ?_
    rintro e w5 ⟨⟨v5, rfl, hv5⟩, hb⟩
    clear hsv
    replace b3 := b3.below hb b3.lt
    replace bo := bo.below hb bo.lt
    replace bk := bk.below hb bk.lt
    replace B0 := B0.trans (hb.mono B0.size)
    clear hb
    go_wp2_with fail
    refine (NX.out _ _ hv5).mono ?_
    rintro e w6 ⟨⟨v6, rfl, hv6⟩, hb⟩
    clear hv5
    replace b3 := b3.below hb b3.lt
    replace bo := bo.below hb bo.lt
    replace bk := bk.below hb bk.lt
    replace B0 := B0.trans (hb.mono B0.size)
    clear hb
    generalize hff : fr ++ [h] = ff at *
    replace hff := hide hff
    obtain ⟨B1, d1, B2, d2, B3, d3, B4, d4, B5, d5, rfl, t1, t2, t3, t4, t5⟩ := hv6
    go_wp2_with (first | (refine wpList_store_mid rfl 51 (.tmp 2) (.tmp 67) rfl w.heap.size 0 #[.slice B1 r2.length d1, .slice B2 ks2.length d2, .int .i64 s, .int .i64 t, .int .i64 f, .int .i64 l, .int .i64 p, .int .i64 k2, .int .u64 ep, .slice B3 hz.length d3, .slice B4 td.length d4, .int .i64 p0, .int .i64 p1, .int .i64 p2, .int .i64 p3, .int .i64 p4, .int .i64 pk2, .int .i64 sl2, .int .u64 hd2, .int .i64 tr2, .slice B5 ff.length d5, .int .i64 0] (by rfl) (by rfl) (b3.there rfl) (by kernel_rfl) (by kernel_rfl) ?_; replace t1 := (show Tr (w6.setCells w.heap.size 0 [.slice B1 r2.length d1, .slice B2 ks2.length d2, .int .i64 s, .int .i64 t, .int .i64 f, .int .i64 l, .int .i64 p, .int .i64 k2, .int .u64 ep, .slice B3 hz.length d3, .slice B4 td.length d4, .int .i64 p0, .int .i64 p1, .int .i64 p2, .int .i64 p3, .int .i64 p4, .int .i64 pk2, .int .i64 sl2, .int .u64 hd2, .int .i64 tr2, .slice B5 ff.length d5, .int .i64 0]) _ _ _ _ _ from by rw [putL_eq]; exact Tr.putL (by decide) _ 0 b3 t1); replace t2 := (show Tr (w6.setCells w.heap.size 0 [.slice B1 r2.length d1, .slice B2 ks2.length d2, .int .i64 s, .int .i64 t, .int .i64 f, .int .i64 l, .int .i64 p, .int .i64 k2, .int .u64 ep, .slice B3 hz.length d3, .slice B4 td.length d4, .int .i64 p0, .int .i64 p1, .int .i64 p2, .int .i64 p3, .int .i64 p4, .int .i64 pk2, .int .i64 sl2, .int .u64 hd2, .int .i64 tr2, .slice B5 ff.length d5, .int .i64 0]) _ _ _ _ _ from by rw [putL_eq]; exact Tr.putL (by decide) _ 0 b3 t2); replace t3 := (show Tr (w6.setCells w.heap.size 0 [.slice B1 r2.length d1, .slice B2 ks2.length d2, .int .i64 s, .int .i64 t, .int .i64 f, .int .i64 l, .int .i64 p, .int .i64 k2, .int .u64 ep, .slice B3 hz.length d3, .slice B4 td.length d4, .int .i64 p0, .int .i64 p1, .int .i64 p2, .int .i64 p3, .int .i64 p4, .int .i64 pk2, .int .i64 sl2, .int .u64 hd2, .int .i64 tr2, .slice B5 ff.length d5, .int .i64 0]) _ _ _ _ _ from by rw [putL_eq]; exact Tr.putL (by decide) _ 0 b3 t3); replace t4 := (show Tr (w6.setCells w.heap.size 0 [.slice B1 r2.length d1, .slice B2 ks2.length d2, .int .i64 s, .int .i64 t, .int .i64 f, .int .i64 l, .int .i64 p, .int .i64 k2, .int .u64 ep, .slice B3 hz.length d3, .slice B4 td.length d4, .int .i64 p0, .int .i64 p1, .int .i64 p2, .int .i64 p3, .int .i64 p4, .int .i64 pk2, .int .i64 sl2, .int .u64 hd2, .int .i64 tr2, .slice B5 ff.length d5, .int .i64 0]) _ _ _ _ _ from by rw [putL_eq]; exact Tr.putL (by decide) _ 0 b3 t4); replace t5 := (show Tr (w6.setCells w.heap.size 0 [.slice B1 r2.length d1, .slice B2 ks2.length d2, .int .i64 s, .int .i64 t, .int .i64 f, .int .i64 l, .int .i64 p, .int .i64 k2, .int .u64 ep, .slice B3 hz.length d3, .slice B4 td.length d4, .int .i64 p0, .int .i64 p1, .int .i64 p2, .int .i64 p3, .int .i64 p4, .int .i64 pk2, .int .i64 sl2, .int .u64 hd2, .int .i64 tr2, .slice B5 ff.length d5, .int .i64 0]) _ _ _ _ _ from by rw [putL_eq]; exact Tr.putL (by decide) _ 0 b3 t5); replace bo := (show Blk (w6.setCells w.heap.size 0 [.slice B1 r2.length d1, .slice B2 ks2.length d2, .int .i64 s, .int .i64 t, .int .i64 f, .int .i64 l, .int .i64 p, .int .i64 k2, .int .u64 ep, .slice B3 hz.length d3, .slice B4 td.length d4, .int .i64 p0, .int .i64 p1, .int .i64 p2, .int .i64 p3, .int .i64 p4, .int .i64 pk2, .int .i64 sl2, .int .u64 hd2, .int .i64 tr2, .slice B5 ff.length d5, .int .i64 0]) _ _ _ from by rw [putL_eq]; exact Blk.offL (by omega) _ _ 0 bo); replace bk := (show Blk (w6.setCells w.heap.size 0 [.slice B1 r2.length d1, .slice B2 ks2.length d2, .int .i64 s, .int .i64 t, .int .i64 f, .int .i64 l, .int .i64 p, .int .i64 k2, .int .u64 ep, .slice B3 hz.length d3, .slice B4 td.length d4, .int .i64 p0, .int .i64 p1, .int .i64 p2, .int .i64 p3, .int .i64 p4, .int .i64 pk2, .int .i64 sl2, .int .u64 hd2, .int .i64 tr2, .slice B5 ff.length d5, .int .i64 0]) _ _ _ from by rw [putL_eq]; exact Blk.offL (by have := hg3.out; omega) _ _ 0 bk); replace B0 := (show Below w.heap.size w (w6.setCells w.heap.size 0 [.slice B1 r2.length d1, .slice B2 ks2.length d2, .int .i64 s, .int .i64 t, .int .i64 f, .int .i64 l, .int .i64 p, .int .i64 k2, .int .u64 ep, .slice B3 hz.length d3, .slice B4 td.length d4, .int .i64 p0, .int .i64 p1, .int .i64 p2, .int .i64 p3, .int .i64 p4, .int .i64 pk2, .int .i64 sl2, .int .u64 hd2, .int .i64 tr2, .slice B5 ff.length d5, .int .i64 0]) from by rw [putL_eq]; exact Below.putL (Nat.le_refl _) _ _ 0 B0); replace b3 := (show Blk (w6.setCells w.heap.size 0 [.slice B1 r2.length d1, .slice B2 ks2.length d2, .int .i64 s, .int .i64 t, .int .i64 f, .int .i64 l, .int .i64 p, .int .i64 k2, .int .u64 ep, .slice B3 hz.length d3, .slice B4 td.length d4, .int .i64 p0, .int .i64 p1, .int .i64 p2, .int .i64 p3, .int .i64 p4, .int .i64 pk2, .int .i64 sl2, .int .u64 hd2, .int .i64 tr2, .slice B5 ff.length d5, .int .i64 0]) w.heap.size 51 #[.slice B1 r2.length d1, .slice B2 ks2.length d2, .int .i64 s, .int .i64 t, .int .i64 f, .int .i64 l, .int .i64 p, .int .i64 k2, .int .u64 ep, .slice B3 hz.length d3, .slice B4 td.length d4, .int .i64 p0, .int .i64 p1, .int .i64 p2, .int .i64 p3, .int .i64 p4, .int .i64 pk2, .int .i64 sl2, .int .u64 hd2, .int .i64 tr2, .slice B5 ff.length d5, .int .i64 0] from by rw [putL_eq]; have h9 := Blk.putL [.slice B1 r2.length d1, .slice B2 ks2.length d2, .int .i64 s, .int .i64 t, .int .i64 f, .int .i64 l, .int .i64 p, .int .i64 k2, .int .u64 ep, .slice B3 hz.length d3, .slice B4 td.length d4, .int .i64 p0, .int .i64 p1, .int .i64 p2, .int .i64 p3, .int .i64 p4, .int .i64 pk2, .int .i64 sl2, .int .u64 hd2, .int .i64 tr2, .slice B5 ff.length d5, .int .i64 0] _ _ 0 b3; simpa only [setL, List.setIfInBounds_toArray, List.set_cons_zero, List.set_cons_succ] using h9); generalize (w6.setCells w.heap.size 0 [.slice B1 r2.length d1, .slice B2 ks2.length d2, .int .i64 s, .int .i64 t, .int .i64 f, .int .i64 l, .int .i64 p, .int .i64 k2, .int .u64 ep, .slice B3 hz.length d3, .slice B4 td.length d4, .int .i64 p0, .int .i64 p1, .int .i64 p2, .int .i64 p3, .int .i64 p4, .int .i64 pk2, .int .i64 sl2, .int .u64 hd2, .int .i64 tr2, .slice B5 ff.length d5, .int .i64 0]) = w7 at *; have mk := fun i => bk.cell i))
    refine (SL.out _).mono ?_
    rintro e w8 ⟨rfl, rfl⟩
    clear mk bk
    have ms := fun i => b3.cell i
    have zs := fun i => b3.frozen i
    replace t1 := t1.set_ b3 (by decide) 21 (.int .i64 (h % 65536))
    replace t2 := t2.set_ b3 (by decide) 21 (.int .i64 (h % 65536))
    replace t3 := t3.set_ b3 (by decide) 21 (.int .i64 (h % 65536))
    replace t4 := t4.set_ b3 (by decide) 21 (.int .i64 (h % 65536))
    replace t5 := t5.set_ b3 (by decide) 21 (.int .i64 (h % 65536))
    replace bo := bo.far (p := ⟨w.heap.size, 21, none⟩) (by show w.heap.size + 1 ≠ w.heap.size; omega) (.int .i64 (h % 65536))
    replace B0 := B0.setCell (p := ⟨w.heap.size, 21, none⟩) (Nat.le_refl _) (.int .i64 (h % 65536))
    have bs := b3.set_ 21 (.int .i64 (h % 65536))
    simp only [List.setIfInBounds_toArray, List.set_cons_zero, List.set_cons_succ] at bs
    go_wp2_with (first | (refine wpList_load_mid rfl 51 (.tmp 2) rfl w.heap.size 0 (by rfl) [.slice B1 r2.length d1, .slice B2 ks2.length d2, .int .i64 s, .int .i64 t, .int .i64 f, .int .i64 l, .int .i64 p, .int .i64 k2, .int .u64 ep, .slice B3 hz.length d3, .slice B4 td.length d4, .int .i64 p0, .int .i64 p1, .int .i64 p2, .int .i64 p3, .int .i64 p4, .int .i64 pk2, .int .i64 sl2, .int .u64 hd2, .int .i64 tr2, .slice B5 ff.length d5, .int .i64 (h % 65536)] _ bs.range Tryd.underlying51 rfl (by kernel_rfl) ?_) | (refine wpList_store_mid rfl 51 (.tmp 4) (.tmp 72) rfl (w.heap.size + 1) 0 #[.slice B1 r2.length d1, .slice B2 ks2.length d2, .int .i64 s, .int .i64 t, .int .i64 f, .int .i64 l, .int .i64 p, .int .i64 k2, .int .u64 ep, .slice B3 hz.length d3, .slice B4 td.length d4, .int .i64 p0, .int .i64 p1, .int .i64 p2, .int .i64 p3, .int .i64 p4, .int .i64 pk2, .int .i64 sl2, .int .u64 hd2, .int .i64 tr2, .slice B5 ff.length d5, .int .i64 (h % 65536)] (by rfl) (by rfl) (bo.there rfl) (by kernel_rfl) (by kernel_rfl) ?_))
    replace t1 := (show Tr ((w7.setCell ⟨w.heap.size, 21, none⟩ (.int .i64 (h % 65536))).setCells (w.heap.size + 1) 0 [.slice B1 r2.length d1, .slice B2 ks2.length d2, .int .i64 s, .int .i64 t, .int .i64 f, .int .i64 l, .int .i64 p, .int .i64 k2, .int .u64 ep, .slice B3 hz.length d3, .slice B4 td.length d4, .int .i64 p0, .int .i64 p1, .int .i64 p2, .int .i64 p3, .int .i64 p4, .int .i64 pk2, .int .i64 sl2, .int .u64 hd2, .int .i64 tr2, .slice B5 ff.length d5, .int .i64 (h % 65536)]) _ _ _ _ _ from by rw [putL_eq]; exact Tr.putL (by decide) _ 0 bo t1)
    replace t2 := (show Tr ((w7.setCell ⟨w.heap.size, 21, none⟩ (.int .i64 (h % 65536))).setCells (w.heap.size + 1) 0 [.slice B1 r2.length d1, .slice B2 ks2.length d2, .int .i64 s, .int .i64 t, .int .i64 f, .int .i64 l, .int .i64 p, .int .i64 k2, .int .u64 ep, .slice B3 hz.length d3, .slice B4 td.length d4, .int .i64 p0, .int .i64 p1, .int .i64 p2, .int .i64 p3, .int .i64 p4, .int .i64 pk2, .int .i64 sl2, .int .u64 hd2, .int .i64 tr2, .slice B5 ff.length d5, .int .i64 (h % 65536)]) _ _ _ _ _ from by rw [putL_eq]; exact Tr.putL (by decide) _ 0 bo t2)
    replace t3 := (show Tr ((w7.setCell ⟨w.heap.size, 21, none⟩ (.int .i64 (h % 65536))).setCells (w.heap.size + 1) 0 [.slice B1 r2.length d1, .slice B2 ks2.length d2, .int .i64 s, .int .i64 t, .int .i64 f, .int .i64 l, .int .i64 p, .int .i64 k2, .int .u64 ep, .slice B3 hz.length d3, .slice B4 td.length d4, .int .i64 p0, .int .i64 p1, .int .i64 p2, .int .i64 p3, .int .i64 p4, .int .i64 pk2, .int .i64 sl2, .int .u64 hd2, .int .i64 tr2, .slice B5 ff.length d5, .int .i64 (h % 65536)]) _ _ _ _ _ from by rw [putL_eq]; exact Tr.putL (by decide) _ 0 bo t3)
    replace t4 := (show Tr ((w7.setCell ⟨w.heap.size, 21, none⟩ (.int .i64 (h % 65536))).setCells (w.heap.size + 1) 0 [.slice B1 r2.length d1, .slice B2 ks2.length d2, .int .i64 s, .int .i64 t, .int .i64 f, .int .i64 l, .int .i64 p, .int .i64 k2, .int .u64 ep, .slice B3 hz.length d3, .slice B4 td.length d4, .int .i64 p0, .int .i64 p1, .int .i64 p2, .int .i64 p3, .int .i64 p4, .int .i64 pk2, .int .i64 sl2, .int .u64 hd2, .int .i64 tr2, .slice B5 ff.length d5, .int .i64 (h % 65536)]) _ _ _ _ _ from by rw [putL_eq]; exact Tr.putL (by decide) _ 0 bo t4)
    replace t5 := (show Tr ((w7.setCell ⟨w.heap.size, 21, none⟩ (.int .i64 (h % 65536))).setCells (w.heap.size + 1) 0 [.slice B1 r2.length d1, .slice B2 ks2.length d2, .int .i64 s, .int .i64 t, .int .i64 f, .int .i64 l, .int .i64 p, .int .i64 k2, .int .u64 ep, .slice B3 hz.length d3, .slice B4 td.length d4, .int .i64 p0, .int .i64 p1, .int .i64 p2, .int .i64 p3, .int .i64 p4, .int .i64 pk2, .int .i64 sl2, .int .u64 hd2, .int .i64 tr2, .slice B5 ff.length d5, .int .i64 (h % 65536)]) _ _ _ _ _ from by rw [putL_eq]; exact Tr.putL (by decide) _ 0 bo t5)
    replace B0 := (show Below w.heap.size w ((w7.setCell ⟨w.heap.size, 21, none⟩ (.int .i64 (h % 65536))).setCells (w.heap.size + 1) 0 [.slice B1 r2.length d1, .slice B2 ks2.length d2, .int .i64 s, .int .i64 t, .int .i64 f, .int .i64 l, .int .i64 p, .int .i64 k2, .int .u64 ep, .slice B3 hz.length d3, .slice B4 td.length d4, .int .i64 p0, .int .i64 p1, .int .i64 p2, .int .i64 p3, .int .i64 p4, .int .i64 pk2, .int .i64 sl2, .int .u64 hd2, .int .i64 tr2, .slice B5 ff.length d5, .int .i64 (h % 65536)]) from by rw [putL_eq]; exact Below.putL (by omega) _ _ 0 B0)
    replace bo := (show Blk ((w7.setCell ⟨w.heap.size, 21, none⟩ (.int .i64 (h % 65536))).setCells (w.heap.size + 1) 0 [.slice B1 r2.length d1, .slice B2 ks2.length d2, .int .i64 s, .int .i64 t, .int .i64 f, .int .i64 l, .int .i64 p, .int .i64 k2, .int .u64 ep, .slice B3 hz.length d3, .slice B4 td.length d4, .int .i64 p0, .int .i64 p1, .int .i64 p2, .int .i64 p3, .int .i64 p4, .int .i64 pk2, .int .i64 sl2, .int .u64 hd2, .int .i64 tr2, .slice B5 ff.length d5, .int .i64 (h % 65536)]) (w.heap.size + 1) 51 #[.slice B1 r2.length d1, .slice B2 ks2.length d2, .int .i64 s, .int .i64 t, .int .i64 f, .int .i64 l, .int .i64 p, .int .i64 k2, .int .u64 ep, .slice B3 hz.length d3, .slice B4 td.length d4, .int .i64 p0, .int .i64 p1, .int .i64 p2, .int .i64 p3, .int .i64 p4, .int .i64 pk2, .int .i64 sl2, .int .u64 hd2, .int .i64 tr2, .slice B5 ff.length d5, .int .i64 (h % 65536)] from by rw [putL_eq]; have h9 := Blk.putL [.slice B1 r2.length d1, .slice B2 ks2.length d2, .int .i64 s, .int .i64 t, .int .i64 f, .int .i64 l, .int .i64 p, .int .i64 k2, .int .u64 ep, .slice B3 hz.length d3, .slice B4 td.length d4, .int .i64 p0, .int .i64 p1, .int .i64 p2, .int .i64 p3, .int .i64 p4, .int .i64 pk2, .int .i64 sl2, .int .u64 hd2, .int .i64 tr2, .slice B5 ff.length d5, .int .i64 (h % 65536)] _ _ 0 bo; simpa only [setL, List.setIfInBounds_toArray, List.set_cons_zero, List.set_cons_succ] using h9)
    clear bs ms zs b3
    generalize (w7.setCell ⟨w.heap.size, 21, none⟩ (.int .i64 (h % 65536))).setCells (w.heap.size + 1) 0 [.slice B1 r2.length d1, .slice B2 ks2.length d2, .int .i64 s, .int .i64 t, .int .i64 f, .int .i64 l, .int .i64 p, .int .i64 k2, .int .u64 ep, .slice B3 hz.length d3, .slice B4 td.length d4, .int .i64 p0, .int .i64 p1, .int .i64 p2, .int .i64 p3, .int .i64 p4, .int .i64 pk2, .int .i64 sl2, .int .u64 hd2, .int .i64 tr2, .slice B5 ff.length d5, .int .i64 (h % 65536)] = w12 at *
    have hres : (loadVar 51 ⟨w.heap.size + 1, 0, none⟩).run Tryd.prog w12 = .ok (.agg #[.slice B1 r2.length d1, .slice B2 ks2.length d2, .int .i64 s, .int .i64 t, .int .i64 f, .int .i64 l, .int .i64 p, .int .i64 k2, .int .u64 ep, .slice B3 hz.length d3, .slice B4 td.length d4, .int .i64 p0, .int .i64 p1, .int .i64 p2, .int .i64 p3, .int .i64 p4, .int .i64 pk2, .int .i64 sl2, .int .u64 hd2, .int .i64 tr2, .slice B5 ff.length d5, .int .i64 (h % 65536)]) w12 := run_loadVar_mid w12 _ 0 _ [.slice B1 r2.length d1, .slice B2 ks2.length d2, .int .i64 s, .int .i64 t, .int .i64 f, .int .i64 l, .int .i64 p, .int .i64 k2, .int .u64 ep, .slice B3 hz.length d3, .slice B4 td.length d4, .int .i64 p0, .int .i64 p1, .int .i64 p2, .int .i64 p3, .int .i64 p4, .int .i64 pk2, .int .i64 sl2, .int .u64 hd2, .int .i64 tr2, .slice B5 ff.length d5, .int .i64 (h % 65536)] _ bo.range Tryd.underlying51 rfl (by kernel_rfl)
    refine bodyPost_ret (v := .agg #[.slice B1 r2.length d1, .slice B2 ks2.length d2, .int .i64 s, .int .i64 t, .int .i64 f, .int .i64 l, .int .i64 p, .int .i64 k2, .int .u64 ep, .slice B3 hz.length d3, .slice B4 td.length d4, .int .i64 p0, .int .i64 p1, .int .i64 p2, .int .i64 p3, .int .i64 p4, .int .i64 pk2, .int .i64 sl2, .int .u64 hd2, .int .i64 tr2, .slice B5 ff.length d5, .int .i64 (h % 65536)]) (by simp [results, Tryd.results20, Act.put, asAddr, hres]) rfl (by have hf := hff.out; subst hf; exact ⟨⟨_, rfl, _, _, _, _, _, _, _, _, _, _, rfl, t1, t2, t3, t4, t5⟩, B0⟩)
end Go.Proofs.YtokcbipmocpllaaDoor

/-
  How a sweep runs over words that nobody else turns: one access after the other.
-/
namespace Go.Proofs.YtokcbipmocpllaaDoor
open Go.RowKit

theorem SwV.wrote [Inhabited GhT] {w w' : World} {s t f l p k ep : Int} {r : List (Int × Int)} {ks hz : List Int} {td : List (Int × Bool)} {q0 q1 q2 q3 q4 pk sl hd tr : Int} {fr : List Int} {ju : Int} {v : Value} (h : SwV w s t f l p k ep r ks hz td q0 q1 q2 q3 q4 pk sl hd tr fr ju v) (hg : w.grownBy w' (some ghB)) : SwV w' s t f l p k ep r ks hz td q0 q1 q2 q3 q4 pk sl hd tr fr ju v := by
  obtain ⟨A1, c1, A2, c2, A3, c3, A4, c4, A5, c5, rfl, t1, t2, t3, t4, t5⟩ := h
  exact ⟨A1, c1, A2, c2, A3, c3, A4, c4, A5, c5, rfl, t1.wrote hg, t2.wrote hg, t3.wrote hg, t4.wrote hg, t5.wrote hg⟩
/-- What a run is about. -/
structure SwRun where
  s : Int
  t : Int
  f : Int
  l : Int
  p : Int
  ep : Int
  R : List (Int × Int)
  K : List Int
  HZ : List Int
  W0 : List Int
  F0 : List Int
namespace SwRun
def TD (c : SwRun) : List (Int × Bool) := askTd c.R c.K c.HZ c.ep
def RK (c : SwRun) (d : Nat) : List (Int × Int) × List Int := (c.TD.take d).foldl (goneF c.ep) (askL c.ep c.R (askOver c.R c.HZ c.ep), c.K ++ askOver c.R c.HZ c.ep)
def FL (c : SwRun) (d : Nat) : List Int := ((c.TD.take d).map fun x => x.1 % 65536).reverse ++ c.F0
def sl (c : SwRun) (d : Nat) : Int := (c.TD.getD d (0, false)).1 % 65536
structure Ok (c : SwRun) : Prop where
  hs : 1 ≤ c.s ∧ c.s ≤ 1000
  ht : 1 ≤ c.t ∧ c.t ≤ 64
  hf : 4 ≤ c.f ∧ c.f ≤ 64
  hep : W64 c.ep
  hR : c.R.length ≤ 30
  hK : c.K.length ≤ 30
  hRw : ∀ x ∈ c.R, W64 x.1 ∧ W64 x.2
  hKw : ∀ x ∈ c.K, W64 x
  hHw : ∀ x ∈ c.HZ, W64 x
  hHl : (c.HZ.length : Int) = 2 * c.t
  hWl : (c.W0.length : Int) = laySize c.s c.t c.f
  hWw : AllW64 c.W0
  h0 : wGet c.W0 0 = c.ep
  hH : ∀ i (h : i < c.HZ.length), wGet c.W0 (3 + c.t + i) = c.HZ[i]
  hF : FreeAre c.W0 c.s c.t c.f c.F0
  hTn : (c.TD.map fun x => x.1 % 65536).Nodup
  hTs : ∀ x ∈ c.TD, 1 ≤ x.1 % 65536 ∧ x.1 % 65536 ≤ c.s
  hTF : ∀ x ∈ c.TD, x.1 % 65536 ∉ c.F0
  hTw : ∀ x ∈ c.TD, W64 x.1
def Wok (c : SwRun) (ws L : List Int) : Prop := ws.length = c.W0.length ∧ AllW64 ws ∧ FreeAre ws c.s c.t c.f L
/-- Behind n accesses. -/
def St [Inhabited GhT] (c : SwRun) (n : Nat) (ws : List Int) (k : Int) (w : World) (v : Value) : Prop :=
  (n = 0 ∧ ws = c.W0 ∧ k = 1 ∧ SwV w c.s c.t c.f c.l c.p 1 0 c.R c.K [] [] 0 0 0 0 0 0 0 0 0 [] 0 v) ∨
  (∃ i ju, n = 1 + i ∧ i < c.HZ.length ∧ ws = c.W0 ∧ k = 2 ∧ SwV w c.s c.t c.f c.l c.p 2 c.ep c.R c.K (c.HZ.take i) [] 0 0 0 0 0 0 0 0 0 [] ju v) ∨
  (∃ d e hd fr ju, n = 1 + c.HZ.length + 3 * d + e ∧ d < c.TD.length ∧ e < 3 ∧ k = 3 ∧ fr.length = d ∧ W64 hd ∧ (1 ≤ e → hd = wGet ws 2) ∧ (e = 2 → nxt ws c.t c.f (c.sl d) = wGet ws 2 % 65536) ∧ c.Wok ws (c.FL d) ∧
    SwV w c.s c.t c.f c.l c.p 3 c.ep (c.RK d).1 (c.RK d).2 c.HZ (c.TD.drop d) c.s c.t c.f c.l c.p ((e : Int) + 1) (c.sl d) hd 0 fr ju v) ∨
  (k = 0 ∧ c.Wok ws (c.FL c.TD.length) ∧ ∃ ep hz td q0 q1 q2 q3 q4 pk sl hd tr fr ju, SwV w c.s c.t c.f c.l c.p 0 ep (c.RK c.TD.length).1 (c.RK c.TD.length).2 hz td q0 q1 q2 q3 q4 pk sl hd tr fr ju v)
theorem St.below [Inhabited GhT] {c : SwRun} {n : Nat} {ws : List Int} {k : Int} {w w' : World} {v : Value} {B : Nat} (h : St c n ws k w v) (hB : w.heap.size ≤ B) (hb : Below B w w') : St c n ws k w' v := by
  rcases h with ⟨h1, h2, h3, h4⟩ | ⟨i, ju, h1, h2, h3, h4, h5⟩ | ⟨d, e, hd, fr, ju, h1, h2, h3, h4, h5, h6, h7, h8, h9, h10⟩ | ⟨h1, h2, ep, hz, td, q0, q1, q2, q3, q4, pk, sl, hd, tr, fr, ju, h3⟩
  · exact .inl ⟨h1, h2, h3, h4.below hB hb⟩
  · exact .inr (.inl ⟨i, ju, h1, h2, h3, h4, h5.below hB hb⟩)
  · exact .inr (.inr (.inl ⟨d, e, hd, fr, ju, h1, h2, h3, h4, h5, h6, h7, h8, h9, h10.below hB hb⟩))
  · exact .inr (.inr (.inr ⟨h1, h2, ep, hz, td, q0, q1, q2, q3, q4, pk, sl, hd, tr, fr, ju, h3.below hB hb⟩))
/-- What one access does. -/
def Nxt [Inhabited GhT] (c : SwRun) (n : Nat) (ws : List Int) (w : World) (v : Value) : Prop :=
  ∃ a0 a1 a2 a3 g ws', mDo ws a0 a1 a2 a3 = (g, ws') ∧
    (∀ w2, Below w.heap.size w w2 → Calls Tryd.prog 22 #[v] w2 fun e w' => e = .returned (.agg #[.int .i64 a0, .int .i64 a1, .int .u64 a2, .int .u64 a3]) ∧ Below w2.heap.size w2 w') ∧
    (∀ w2 w3, Below w.heap.size w w2 → w2.grownBy w3 (some ghB) → Calls Tryd.prog 20 #[v, .int .u64 g] w3 fun e w' => (∃ v' k', e = .returned v' ∧ St c (n + 1) ws' k' w' v') ∧ Below w3.heap.size w3 w')

section
variable {c : SwRun}
theorem gone_sub (ep : Int) : ∀ (td : List (Int × Bool)) (rk : List (Int × Int) × List Int), (td.foldl (goneF ep) rk).1.Sublist rk.1 ∧ (td.foldl (goneF ep) rk).2.Sublist rk.2
  | [], rk => ⟨List.Sublist.refl _, List.Sublist.refl _⟩
  | x :: td, rk => by
    rw [List.foldl_cons]
    obtain ⟨h1, h2⟩ := gone_sub ep td (goneF ep rk x)
    have h3 : (goneF ep rk x).1.Sublist rk.1 ∧ (goneF ep rk x).2.Sublist rk.2 := by
      unfold goneF
      split
      · exact ⟨List.Sublist.refl _, List.eraseP_sublist⟩
      · exact ⟨List.eraseP_sublist, List.Sublist.refl _⟩
    exact ⟨h1.trans h3.1, h2.trans h3.2⟩
theorem rk_sub (c : SwRun) (d : Nat) : (c.RK d).1.Sublist c.R ∧ (c.RK d).2.Sublist (c.K ++ askOver c.R c.HZ c.ep) := by
  obtain ⟨h1, h2⟩ := gone_sub c.ep (c.TD.take d) (askL c.ep c.R (askOver c.R c.HZ c.ep), c.K ++ askOver c.R c.HZ c.ep)
  exact ⟨h1.trans (askL_sub _ _ _), h2⟩
theorem over_len (r : List (Int × Int)) (hz : List Int) (ep : Int) : (askOver r hz ep).length ≤ r.length := by
  unfold askOver askRipe
  exact Nat.le_trans (List.length_filter_le _ _) (by rw [List.length_map]; exact List.length_filter_le _ _)
theorem Ok.rk_len (h : c.Ok) (d : Nat) : (c.RK d).1.length ≤ 30 ∧ (c.RK d).2.length ≤ 60 := by
  obtain ⟨h1, h2⟩ := c.rk_sub d
  have h3 := h1.length_le
  have h4 := h2.length_le
  rw [List.length_append] at h4
  have := over_len c.R c.HZ c.ep
  have := h.hR
  have := h.hK
  omega
theorem td_len (r : List (Int × Int)) (ks hz : List Int) (ep : Int) : (askTd r ks hz ep).length ≤ ks.length + r.length := by
  have h1 := (askTd_keys r ks hz ep).length_le
  simpa using h1
theorem rk_succ (c : SwRun) (d : Nat) (h : d < c.TD.length) : c.RK (d + 1) = goneF c.ep (c.RK d) c.TD[d] := by
  unfold RK
  rw [take_snocA _ d h, List.foldl_append]
  rfl
theorem fl_succ (c : SwRun) (d : Nat) (h : d < c.TD.length) : c.FL (d + 1) = c.sl d :: c.FL d := by
  unfold FL sl
  rw [take_snocA _ d h, List.map_append, List.reverse_append, List.getD_eq_getElem?_getD, List.getElem?_eq_getElem h]
  rfl
theorem sl_eq (c : SwRun) (d : Nat) (h : d < c.TD.length) : c.sl d = c.TD[d].1 % 65536 := by
  unfold sl
  rw [List.getD_eq_getElem?_getD, List.getElem?_eq_getElem h]
  rfl
theorem Ok.sl_new (h : c.Ok) (d : Nat) (hd : d < c.TD.length) : c.sl d ∉ c.FL d := by
  intro hm
  rw [sl_eq c d hd] at hm
  unfold FL at hm
  rcases List.mem_append.1 hm with hm | hm
  · rw [List.mem_reverse, List.mem_map] at hm
    obtain ⟨x, hx, e⟩ := hm
    obtain ⟨j, hj, rfl⟩ := List.getElem_of_mem hx
    rw [List.length_take] at hj
    rw [List.getElem_take] at e
    have := nodup_inj h.hTn (i := j) (j := d) (by rw [List.length_map]; omega) (by rw [List.length_map]; exact hd) (by simpa using e)
    omega
  · exact h.hTF _ (List.getElem_mem _) hm
theorem Ok.sl_bd (h : c.Ok) (d : Nat) (hd : d < c.TD.length) : 1 ≤ c.sl d ∧ c.sl d ≤ c.s := by
  rw [sl_eq c d hd]
  exact h.hTs _ (List.getElem_mem _)
/-- The next handle's turn. -/
theorem Ok.next [Inhabited GhT] (h : c.Ok) (d : Nat) (k : Int) (r : List (Int × Int)) (ks hz : List Int) (q0 q1 q2 q3 q4 pk sl hd tr : Int) (fr : List Int) (ju : Int) (v : Value) (w : World) (hv : SwV w c.s c.t c.f c.l c.p k c.ep r ks hz (c.TD.drop d) q0 q1 q2 q3 q4 pk sl hd tr fr ju v) :
    Calls Tryd.prog 51 #[v] w fun e w' => (∃ v2 k2 p0 p1 p2 p3 p4 pk2 sl2 hd2 tr2, e = .returned v2 ∧ SwV w' c.s c.t c.f c.l c.p k2 c.ep r ks hz (c.TD.drop d) p0 p1 p2 p3 p4 pk2 sl2 hd2 tr2 fr ju v2 ∧ ((k2 = 0 ∧ c.TD.length ≤ d) ∨ (d < c.TD.length ∧ k2 = 3 ∧ p0 = c.s ∧ p1 = c.t ∧ p2 = c.f ∧ p3 = c.l ∧ p4 = c.p ∧ pk2 = 1 ∧ sl2 = c.sl d ∧ hd2 = 0 ∧ tr2 = 0))) ∧ Below w.heap.size w w' := by
  by_cases hd2 : d < c.TD.length
  · have e := List.drop_eq_getElem_cons hd2
    have hb := h.sl_bd d hd2
    rw [sl_eq c d hd2] at hb
    rw [e] at hv ⊢
    obtain ⟨x, b, hx⟩ : ∃ x b, c.TD[d] = (x, b) := ⟨_, _, rfl⟩
    have hw := h.hTw _ (List.getElem_mem hd2)
    rw [hx] at hv hb hw ⊢
    refine (snext_one c.s c.t c.f c.l c.p k c.ep r ks hz (c.TD.drop (d + 1)) q0 q1 q2 q3 q4 pk sl hd tr fr ju x b v w hv hw h.hs h.ht h.hf hb.1 hb.2).mono ?_
    rintro e w' ⟨⟨v', rfl, h'⟩, hbb⟩
    exact ⟨⟨v', 3, _, _, _, _, _, _, _, _, _, rfl, h', .inr ⟨hd2, rfl, rfl, rfl, rfl, rfl, rfl, rfl, by rw [sl_eq c d hd2, hx], rfl, rfl⟩⟩, hbb⟩
  · have e : c.TD.drop d = [] := List.drop_eq_nil_of_le (by omega)
    rw [e] at hv ⊢
    refine (snext_nil c.s c.t c.f c.l c.p k c.ep r ks hz q0 q1 q2 q3 q4 pk sl hd tr fr ju v w hv).mono ?_
    rintro e w' ⟨⟨v', rfl, h'⟩, hbb⟩
    exact ⟨⟨v', 0, _, _, _, _, _, _, _, _, _, rfl, h', .inl ⟨rfl, by omega⟩⟩, hbb⟩
end
end SwRun
end Go.Proofs.YtokcbipmocpllaaDoor

/-
  One access of a sweep's run.
-/
namespace Go.Proofs.YtokcbipmocpllaaDoor
open Go.RowKit

namespace SwRun
section
variable {c : SwRun}
theorem mDo_load (ws : List Int) (a : Int) : mDo ws 1 a 0 0 = (wGet ws a, ws) := by unfold mDo; rw [if_pos rfl]
theorem mDo_store (ws : List Int) (a x : Int) : mDo ws 2 a 0 x = (0, wPut ws a x) := by unfold mDo; rw [if_neg (by decide), if_pos rfl]
theorem mDo_swap (ws : List Int) (a o x : Int) (h0 : 0 ≤ a) (h1 : a < ws.length) (h : wGet ws a = o) : mDo ws 3 a o x = (1, wPut ws a x) := by unfold mDo; rw [if_neg (by decide), if_neg (by decide), if_pos ⟨rfl, h0, h1, h⟩]
theorem hturn_mod (x : Int) {a : Int} (h : 1 ≤ a ∧ a ≤ 1000) : hturn x a % 65536 = a := by
  unfold hturn hmake hslot
  rw [if_neg (by omega)]
  omega
theorem rk_none (hr : (c.R.any fun x => ripeB x.2 c.ep) = false) (hk : c.K = []) (d : Nat) : c.TD = [] ∧ c.RK d = (c.R, []) := by
  have e1 : askRipe c.R c.ep = [] := by
    unfold askRipe
    rw [List.map_eq_nil_iff, List.filter_eq_nil_iff]
    intro x hx h
    have h9 : (c.R.any fun x => ripeB x.2 c.ep) = true := List.any_eq_true.2 ⟨x, hx, h⟩
    rw [h9] at hr
    cases hr
  have e2 : c.TD = [] := by
    unfold TD askTd askBare askFree
    rw [hk, e1]
    rfl
  refine ⟨e2, ?_⟩
  unfold RK
  rw [e2, List.take_nil, List.foldl_nil]
  unfold askOver
  rw [e1, hk]
  rfl
theorem Ok.wok0 (h : c.Ok) (d : Nat) (hd : c.TD.take d = []) : c.Wok c.W0 (c.FL d) := by
  refine ⟨rfl, h.hWw, ?_⟩
  unfold FL
  rw [hd]
  exact h.hF
theorem Ok.step_a [Inhabited GhT] (h : c.Ok) {n : Nat} {ws : List Int} {w : World} {v : Value} (hn : n = 0) (hws : ws = c.W0) (hv : SwV w c.s c.t c.f c.l c.p 1 0 c.R c.K [] [] 0 0 0 0 0 0 0 0 0 [] 0 v) : Nxt c n ws w v := by
  subst hn hws
  refine ⟨1, 0, 0, 0, c.ep, c.W0, by rw [mDo_load, h.h0], fun w2 hb => ?_, fun w2 w3 hb hg => ?_⟩
  · obtain ⟨A1, c1, A2, c2, A3, c3, A4, c4, A5, c5, rfl, _⟩ := hv
    exact swant_1 _ _ _ _ _ _ _ _ _ _ _ _ _ _ _ _ c.s c.t c.f c.l c.p w2 h.hs h.ht h.hf
  · have hv3 := (hv.below (Nat.le_refl _) hb).wrote hg
    have hhl := h.hHl
    have ht := h.ht
    cases hr : (c.R.any fun x => ripeB x.2 c.ep) with
    | true =>
      refine (stook_1r c.s c.t c.f c.l c.p 0 c.R c.K [] [] 0 0 0 0 0 0 0 0 0 [] 0 c.ep v w3 hv3 (by have := h.hR; omega) (fun x hx => (h.hRw x hx).2) h.hep hr).mono ?_
      rintro e w' ⟨⟨v', rfl, h'⟩, hbb⟩
      exact ⟨⟨v', 2, rfl, .inr (.inl ⟨0, 0, rfl, by omega, rfl, rfl, h'⟩)⟩, hbb⟩
    | false =>
      by_cases hk : 0 < c.K.length
      · refine (stook_1k c.s c.t c.f c.l c.p 0 c.R c.K [] [] 0 0 0 0 0 0 0 0 0 [] 0 c.ep v w3 hv3 (by have := h.hR; omega) (fun x hx => (h.hRw x hx).2) h.hep hr hk).mono ?_
        rintro e w' ⟨⟨v', rfl, h'⟩, hbb⟩
        exact ⟨⟨v', 2, rfl, .inr (.inl ⟨0, 0, rfl, by omega, rfl, rfl, h'⟩)⟩, hbb⟩
      · have hk0 : c.K = [] := List.eq_nil_of_length_eq_zero (by omega)
        obtain ⟨e1, e2⟩ := rk_none hr hk0 c.TD.length
        rw [hk0] at hv3
        refine (stook_1n c.s c.t c.f c.l c.p 0 c.R [] [] 0 0 0 0 0 0 0 0 0 [] 0 c.ep v w3 hv3 (by have := h.hR; omega) (fun x hx => (h.hRw x hx).2) h.hep hr).mono ?_
        rintro e w' ⟨⟨v', rfl, h'⟩, hbb⟩
        refine ⟨⟨v', 0, rfl, .inr (.inr (.inr ⟨rfl, h.wok0 _ (by rw [e1]; rfl), c.ep, [], [], 0, 0, 0, 0, 0, 0, 0, 0, 0, [], 0, ?_⟩))⟩, hbb⟩
        rw [e2]
        exact h'
theorem Ok.step_b [Inhabited GhT] (h : c.Ok) {n : Nat} {ws : List Int} {w : World} {v : Value} {i : Nat} {ju : Int} (hn : n = 1 + i) (hi : i < c.HZ.length) (hws : ws = c.W0) (hv : SwV w c.s c.t c.f c.l c.p 2 c.ep c.R c.K (c.HZ.take i) [] 0 0 0 0 0 0 0 0 0 [] ju v) : Nxt c n ws w v := by
  subst hn hws
  have hhl := h.hHl
  have ht := h.ht
  have hlen : (c.HZ.take i).length = i := by rw [List.length_take]; omega
  refine ⟨1, 3 + c.t + i, 0, 0, c.HZ[i], c.W0, by rw [mDo_load, h.hH i hi], fun w2 hb => ?_, fun w2 w3 hb hg => ?_⟩
  · obtain ⟨A1, c1, A2, c2, A3, c3, A4, c4, A5, c5, rfl, _⟩ := hv
    rw [hlen]
    exact swant_2 _ _ _ _ _ _ _ _ _ _ _ _ _ _ _ A3 i c3 c.s c.t c.f c.l c.p w2 h.hs h.ht h.hf (by omega)
  · have hv3 := (hv.below (Nat.le_refl _) hb).wrote hg
    have hsn : c.HZ.take i ++ [c.HZ[i]] = c.HZ.take (i + 1) := (take_snocA _ i hi).symm
    have hgw : W64 c.HZ[i] := h.hHw _ (List.getElem_mem _)
    by_cases hq : (i : Int) + 1 = 2 * c.t
    · have hall : c.HZ.take (i + 1) = c.HZ := List.take_of_length_le (by omega)
      have hdr : c.TD.drop 0 = c.TD := rfl
      refine (stook_2y c.s c.t c.f c.l c.p c.ep c.R c.K (c.HZ.take i) [] 0 0 0 0 0 0 0 0 0 [] ju c.HZ[i] v w3 hv3 (by omega) ht (by have := h.hR; omega) (by have := h.hK; omega) h.hRw h.hKw (fun x hx => h.hHw x (List.mem_of_mem_take hx)) h.hep hgw
        (fun k2 p0 p1 p2 p3 p4 pk2 sl2 hd2 tr2 => (k2 = 0 ∧ c.TD.length ≤ 0) ∨ (0 < c.TD.length ∧ k2 = 3 ∧ p0 = c.s ∧ p1 = c.t ∧ p2 = c.f ∧ p3 = c.l ∧ p4 = c.p ∧ pk2 = 1 ∧ sl2 = c.sl 0 ∧ hd2 = 0 ∧ tr2 = 0))
        (fun v w1 hv1 => by
          rw [hsn, hall] at hv1 ⊢
          exact h.next 0 2 _ _ _ _ _ _ _ _ _ _ _ _ _ _ v w1 hv1) (by rw [hlen]; exact hq)).mono ?_
      rintro e w' ⟨⟨v2, k2, p0, p1, p2, p3, p4, pk2, sl2, hd2, tr2, rfl, h', hp⟩, hbb⟩
      rw [hsn, hall] at h'
      refine ⟨⟨v2, k2, rfl, ?_⟩, hbb⟩
      rcases hp with ⟨rfl, h0⟩ | ⟨h0, rfl, rfl, rfl, rfl, rfl, rfl, rfl, rfl, rfl, rfl⟩
      · have e0 : c.TD = [] := List.eq_nil_of_length_eq_zero (by omega)
        have er : c.RK c.TD.length = (askL c.ep c.R (askOver c.R c.HZ c.ep), c.K ++ askOver c.R c.HZ c.ep) := by
          unfold RK
          rw [e0, List.take_nil, List.foldl_nil]
        have h2 : SwV w' c.s c.t c.f c.l c.p 0 c.ep (c.RK c.TD.length).1 (c.RK c.TD.length).2 c.HZ (askTd c.R c.K c.HZ c.ep) p0 p1 p2 p3 p4 pk2 sl2 hd2 tr2 [] 0 v2 := by rw [er]; exact h'
        exact .inr (.inr (.inr ⟨rfl, h.wok0 _ (by rw [e0]; rfl), _, _, _, _, _, _, _, _, _, _, _, _, _, _, h2⟩))
      · exact .inr (.inr (.inl ⟨0, 0, 0, [], 0, by omega, h0, by omega, rfl, rfl, ⟨by decide, by decide⟩, fun h9 => by omega, fun h9 => by omega, h.wok0 0 rfl, h'⟩))
    · refine (stook_2n c.s c.t c.f c.l c.p c.ep c.R c.K (c.HZ.take i) [] 0 0 0 0 0 0 0 0 0 [] ju c.HZ[i] v w3 hv3 (by omega) ht (by rw [hlen]; exact hq)).mono ?_
      rintro e w' ⟨⟨v', rfl, h'⟩, hbb⟩
      rw [hsn] at h'
      exact ⟨⟨v', 2, rfl, .inr (.inl ⟨i + 1, 0, by omega, by omega, rfl, rfl, h'⟩)⟩, hbb⟩
theorem Ok.step_c [Inhabited GhT] (h : c.Ok) {n : Nat} {ws : List Int} {w : World} {v : Value} {d e : Nat} {hd : Int} {fr : List Int} {ju : Int} (hn : n = 1 + c.HZ.length + 3 * d + e) (hd1 : d < c.TD.length) (he : e < 3) (hf : fr.length = d) (hhd : W64 hd) (h1 : 1 ≤ e → hd = wGet ws 2) (h2 : e = 2 → nxt ws c.t c.f (c.sl d) = wGet ws 2 % 65536) (hw : c.Wok ws (c.FL d))
    (hv : SwV w c.s c.t c.f c.l c.p 3 c.ep (c.RK d).1 (c.RK d).2 c.HZ (c.TD.drop d) c.s c.t c.f c.l c.p ((e : Int) + 1) (c.sl d) hd 0 fr ju v) : Nxt c n ws w v := by
  have hbd := h.sl_bd d hd1
  have ht := h.ht
  have hs := h.hs
  have hf2 := h.hf
  have hsz := size_pos h.hs h.ht h.hf
  have hwl := h.hWl
  have hll := hw.1
  have hnb := nB_bd h.hs h.ht h.hf (sl := c.sl d) (by omega)
  have WANT : ∀ (x : Int × Int × Int × Int), x = ((e : Int) + 1, c.sl d, hd, 0) → ∀ w2, Calls Tryd.prog 22 #[v] w2 fun e w' => e = .returned (.agg #[.int .i64 (psAsk c.t c.f x).1, .int .i64 (psAsk c.t c.f x).2.1, .int .u64 (psAsk c.t c.f x).2.2.1, .int .u64 (psAsk c.t c.f x).2.2.2]) ∧ Below w2.heap.size w2 w' := by
    rintro x rfl w2
    obtain ⟨A1, c1, A2, c2, A3, c3, A4, c4, A5, c5, rfl, _⟩ := hv
    have hok : PsOk ((e : Int) + 1, c.sl d, hd, 0) := by
      show (e : Int) + 1 = 0 ∨ (e : Int) + 1 = 1 ∨ (e : Int) + 1 = 2 ∨ (e : Int) + 1 = 3
      omega
    exact swant_3 _ _ _ _ _ _ _ _ _ _ _ _ c.s c.t c.f c.l c.p ((e : Int) + 1, c.sl d, hd, 0) w2 ⟨hok, hhd, .inr hbd⟩ (.inr ⟨h.hs, h.ht, h.hf⟩)
  have he3 : e = 0 ∨ e = 1 ∨ e = 2 := by omega
  rcases he3 with rfl | rfl | rfl
  · refine ⟨1, 2, 0, 0, wGet ws 2, ws, mDo_load _ _, fun w2 hb => WANT _ rfl w2, fun w2 w3 hb hg => ?_⟩
    have hv3 := (hv.below (Nat.le_refl _) hb).wrote hg
    refine (stook_3a c.s c.t c.f c.l c.p c.ep (c.RK d).1 (c.RK d).2 c.HZ (c.TD.drop d) c.s c.t c.f c.l c.p (c.sl d) hd 0 fr ju (wGet ws 2) v w3 hv3).mono ?_
    rintro e w' ⟨⟨v', rfl, h'⟩, hbb⟩
    exact ⟨⟨v', 3, rfl, .inr (.inr (.inl ⟨d, 1, wGet ws 2, fr, 0, by omega, hd1, by omega, rfl, hf, wGet_w64 hw.2.1 2, fun _ => rfl, fun h9 => by omega, hw, h'⟩))⟩, hbb⟩
  · have e1 := h1 (by omega)
    refine ⟨2, nB c.t c.f (c.sl d) + 2, 0, hd % 65536, 0, wPut ws (nB c.t c.f (c.sl d) + 2) (hd % 65536), mDo_store _ _ _, fun w2 hb => WANT _ rfl w2, fun w2 w3 hb hg => ?_⟩
    have hv3 := (hv.below (Nat.le_refl _) hb).wrote hg
    refine (stook_3b c.s c.t c.f c.l c.p c.ep (c.RK d).1 (c.RK d).2 c.HZ (c.TD.drop d) c.s c.t c.f c.l c.p (c.sl d) hd 0 fr ju 0 v w3 hv3).mono ?_
    rintro e w' ⟨⟨v', rfl, h'⟩, hbb⟩
    have hpos : nB c.t c.f (c.sl d) + 2 < ws.length := by omega
    have hge := nB_ge (t := c.t) h.hf.1 (y := c.sl d) (by omega)
    have g2 : wGet (wPut ws (nB c.t c.f (c.sl d) + 2) (hd % 65536)) 2 = wGet ws 2 := by rw [wGet_put (by omega) hpos, if_neg (by omega)]
    refine ⟨⟨v', 3, rfl, .inr (.inr (.inl ⟨d, 2, hd, fr, 0, by omega, hd1, by omega, rfl, hf, hhd, fun _ => by rw [g2]; exact e1, fun _ => ?_, ⟨by rw [wPut_len]; exact hw.1, wPut_w64 hw.2.1 ?_, hw.2.2.link ht.1 h.hf.1 (by omega) hpos (h.sl_new d hd1)⟩, h'⟩))⟩, hbb⟩
    · rw [nxt_put h.hf.1 (by omega) hpos, if_pos rfl, g2, e1]
    · have := hhd.1
      exact ⟨by omega, by omega⟩
  · have e1 := h1 (by omega)
    have e2 := h2 rfl
    have h22 : (2 : Int) < ws.length := by omega
    refine ⟨3, 2, hd, hturn hd (c.sl d), 1, wPut ws 2 (hturn hd (c.sl d)), mDo_swap _ _ _ _ (by omega) h22 e1.symm, fun w2 hb => WANT _ rfl w2, fun w2 w3 hb hg => ?_⟩
    have hv3 := (hv.below (Nat.le_refl _) hb).wrote hg
    have hdr := List.drop_eq_getElem_cons hd1
    have hxw := h.hTw _ (List.getElem_mem hd1)
    have hrk := rk_succ c d hd1
    have hrl := h.rk_len d
    have hsub := c.rk_sub d
    have hsl := sl_eq c d hd1
    have htl := td_len c.R c.K c.HZ c.ep
    have hR := h.hR
    have hK := h.hK
    have hdl : d < 100 := by have : c.TD.length ≤ c.K.length + c.R.length := htl; omega
    obtain ⟨x, b, hx⟩ : ∃ x b, c.TD[d] = (x, b) := ⟨_, _, rfl⟩
    rw [hx] at hdr hxw hrk hsl
    rw [hdr] at hv3
    have wok : c.Wok (wPut ws 2 (hturn hd (c.sl d))) (c.FL (d + 1)) := by
      refine ⟨by rw [wPut_len]; exact hw.1, wPut_w64 hw.2.1 (hturn_bound _ _), ?_⟩
      rw [fl_succ c d hd1]
      exact hw.2.2.push ht.1 h.hf.1 hbd h22 (h.sl_new d hd1) e2 (hturn_mod hd ⟨hbd.1, by have := h.hs; omega⟩)
    have FIN : ∀ (GN : ∀ v w1, SwV w1 c.s c.t c.f c.l c.p 3 c.ep (c.RK d).1 (c.RK d).2 c.HZ (c.TD.drop (d + 1)) c.s c.t c.f c.l c.p 0 (c.sl d) hd 0 fr 0 v → Calls Tryd.prog 50 #[v, .agg #[.int .u64 x, .bool b]] w1 fun e w2 => (∃ v2, e = .returned v2 ∧ SwV w2 c.s c.t c.f c.l c.p 3 c.ep (c.RK (d + 1)).1 (c.RK (d + 1)).2 c.HZ (c.TD.drop (d + 1)) c.s c.t c.f c.l c.p 0 (c.sl d) hd 0 (fr ++ [x]) 0 v2) ∧ Below w1.heap.size w1 w2),
        Calls Tryd.prog 20 #[v, .int .u64 1] w3 fun e w' => (∃ v' k', e = .returned v' ∧ St c (n + 1) (wPut ws 2 (hturn hd (c.sl d))) k' w' v') ∧ Below w3.heap.size w3 w' := by
      intro GN
      by_cases hnx : d + 1 < c.TD.length
      · refine (stook_3c c.s c.t c.f c.l c.p c.ep (c.RK d).1 (c.RK d).2 c.HZ (c.TD.drop (d + 1)) c.s c.t c.f c.l c.p (c.sl d) hd 0 fr ju x b v w3 hv3 hxw (c.RK (d + 1)).1 (c.RK (d + 1)).2 3 c.s c.t c.f c.l c.p 1 (c.sl (d + 1)) 0 0 GN (fun v w1 hv1 => ?_)).mono ?_
        · refine (h.next (d + 1) 3 _ _ _ _ _ _ _ _ _ _ _ _ _ _ v w1 hv1).mono ?_
          rintro e w' ⟨⟨v2, k2, p0, p1, p2, p3, p4, pk2, sl2, hd2, tr2, rfl, h', hp⟩, hbb⟩
          rcases hp with ⟨_, h0⟩ | ⟨h0, rfl, rfl, rfl, rfl, rfl, rfl, rfl, rfl, rfl, rfl⟩
          · omega
          · exact ⟨⟨v2, rfl, h'⟩, hbb⟩
        · rintro e w' ⟨⟨v', rfl, h'⟩, hbb⟩
          exact ⟨⟨v', 3, rfl, .inr (.inr (.inl ⟨d + 1, 0, 0, fr ++ [x], _, by omega, hnx, by omega, rfl, by rw [List.length_append, hf]; rfl, ⟨by decide, by decide⟩, fun h9 => by omega, fun h9 => by omega, wok, h'⟩))⟩, hbb⟩
      · have hlast : d + 1 = c.TD.length := by omega
        have hnil : c.TD.drop (d + 1) = [] := List.drop_eq_nil_of_le (by omega)
        refine (stook_3c c.s c.t c.f c.l c.p c.ep (c.RK d).1 (c.RK d).2 c.HZ (c.TD.drop (d + 1)) c.s c.t c.f c.l c.p (c.sl d) hd 0 fr ju x b v w3 hv3 hxw (c.RK (d + 1)).1 (c.RK (d + 1)).2 0 c.s c.t c.f c.l c.p 0 (c.sl d) hd 0 GN (fun v w1 hv1 => ?_)).mono ?_
        · rw [hnil] at hv1 ⊢
          exact snext_nil c.s c.t c.f c.l c.p 3 c.ep _ _ _ _ _ _ _ _ _ _ _ _ _ _ v w1 hv1
        · rintro e w' ⟨⟨v', rfl, h'⟩, hbb⟩
          rw [hlast] at wok h'
          exact ⟨⟨v', 0, rfl, .inr (.inr (.inr ⟨rfl, wok, _, _, _, _, _, _, _, _, _, _, _, _, _, _, h'⟩))⟩, hbb⟩
    apply FIN
    intro v w1 hv1
    cases b with
    | true =>
      have e9 : c.RK (d + 1) = ((c.RK d).1, (c.RK d).2.eraseP fun y => y == x) := by rw [hrk]; unfold goneF; rw [if_pos rfl]
      rw [e9]
      exact sgone_k c.s c.t c.f c.l c.p 3 c.ep (c.RK d).1 (c.RK d).2 c.HZ (c.TD.drop (d + 1)) c.s c.t c.f c.l c.p 0 (c.sl d) hd 0 fr 0 x v w1 hv1 (by omega) (by omega) (by omega)
    | false =>
      have e9 : c.RK (d + 1) = ((c.RK d).1.eraseP fun y => y.1 == x && ripeB y.2 c.ep, (c.RK d).2) := by rw [hrk]; unfold goneF; rw [if_neg (by simp)]
      rw [e9]
      exact sgone_l c.s c.t c.f c.l c.p 3 c.ep (c.RK d).1 (c.RK d).2 c.HZ (c.TD.drop (d + 1)) c.s c.t c.f c.l c.p 0 (c.sl d) hd 0 fr 0 x v w1 hv1 (by omega) (by omega) (by omega) (fun y hy => (h.hRw y (hsub.1.subset hy)).2) h.hep
theorem Ok.step [Inhabited GhT] (h : c.Ok) {n : Nat} {ws : List Int} {k : Int} {w : World} {v : Value} (hst : St c n ws k w v) (hk : k ≠ 0) : Nxt c n ws w v := by
  rcases hst with ⟨h1, h2, h3, h4⟩ | ⟨i, ju, h1, h2, h3, h4, h5⟩ | ⟨d, e, hd, fr, ju, h1, h2, h3, h4, h5, h6, h7, h8, h9, h10⟩ | ⟨h1, _⟩
  · exact h.step_a h1 h2 h4
  · exact h.step_b h1 h2 h3 h5
  · exact h.step_c h1 h2 h3 h5 h6 h7 h8 h9 h10
  · exact absurd h1 hk
end
end SwRun
end Go.Proofs.YtokcbipmocpllaaDoor

/-
  A sweep's 22 cells, whatever they are.
-/
namespace Go.Proofs.YtokcbipmocpllaaDoor
open Go.RowKit

theorem setL_all : ∀ (vs rest pre : List Value), rest.length = vs.length → setL (pre ++ rest).toArray pre.length vs = (pre ++ vs).toArray
  | [], rest, pre, h => by
    have : rest = [] := List.eq_nil_of_length_eq_zero h
    subst this
    rfl
  | v :: vs, [], pre, h => by simp at h
  | v :: vs, x :: rest, pre, h => by
    show setL ((pre ++ x :: rest).toArray.setIfInBounds pre.length v) (pre.length + 1) vs = _
    rw [List.setIfInBounds_toArray, List.set_append_right _ _ (Nat.le_refl _), Nat.sub_self, List.set_cons_zero]
    have e := setL_all vs rest (pre ++ [v]) (by simpa using h)
    rw [List.length_append, List.append_assoc, List.append_assoc] at e
    exact e
theorem Blk.put_all {w : World} {g : Nat} {T : TypeId} {cs0 cs : List Value} (h : Blk w g T cs0.toArray) (hl : cs0.length = cs.length) : Blk (w.setCells g 0 cs) g T cs.toArray := by
  rw [putL_eq]
  have h9 := Blk.putL cs w cs0.toArray 0 h
  have e := setL_all cs cs0 [] hl
  rw [show ([] : List Value).length = 0 from rfl, List.nil_append, List.nil_append] at e
  rw [e] at h9
  exact h9
theorem SwV.put [Inhabited GhT] {w : World} {s t f l p k ep : Int} {r : List (Int × Int)} {ks hz : List Int} {td : List (Int × Bool)} {q0 q1 q2 q3 q4 pk sl hd tr : Int} {fr : List Int} {ju : Int} {v : Value} {gs : Nat} {cs0 : Array Value} (h : SwV w s t f l p k ep r ks hz td q0 q1 q2 q3 q4 pk sl hd tr fr ju v) (hb : Blk w gs 51 cs0) (vs : List Value) : SwV (w.setCells gs 0 vs) s t f l p k ep r ks hz td q0 q1 q2 q3 q4 pk sl hd tr fr ju v := by
  obtain ⟨A1, c1, A2, c2, A3, c3, A4, c4, A5, c5, rfl, t1, t2, t3, t4, t5⟩ := h
  rw [putL_eq]
  exact ⟨A1, c1, A2, c2, A3, c3, A4, c4, A5, c5, rfl, Tr.putL (by decide) vs 0 hb t1, Tr.putL (by decide) vs 0 hb t2, Tr.putL (by decide) vs 0 hb t3, Tr.putL (by decide) vs 0 hb t4, Tr.putL (by decide) vs 0 hb t5⟩
theorem SwV.cells [Inhabited GhT] {w : World} {s t f l p k ep : Int} {r : List (Int × Int)} {ks hz : List Int} {td : List (Int × Bool)} {q0 q1 q2 q3 q4 pk sl hd tr : Int} {fr : List Int} {ju : Int} {v : Value} (h : SwV w s t f l p k ep r ks hz td q0 q1 q2 q3 q4 pk sl hd tr fr ju v) : ∃ cs : List Value, v = .agg cs.toArray ∧ cs.length = 22 ∧ cs.toArray.all (·.oneCell') = true := by
  obtain ⟨A1, c1, A2, c2, A3, c3, A4, c4, A5, c5, rfl, _⟩ := h
  exact ⟨_, rfl, rfl, by kernel_rfl⟩
theorem SwV.done [Inhabited GhT] {w : World} {s t f l p k ep : Int} {r : List (Int × Int)} {ks hz : List Int} {td : List (Int × Bool)} {q0 q1 q2 q3 q4 pk sl hd tr : Int} {fr : List Int} {ju : Int} {v : Value} (h : SwV w s t f l p k ep r ks hz td q0 q1 q2 q3 q4 pk sl hd tr fr ju v) (w2 : World) : Calls Tryd.prog 19 #[v] w2 fun e w' => e = .returned (.bool (k == 0)) ∧ Below w2.heap.size w2 w' := by
  obtain ⟨A1, c1, A2, c2, A3, c3, A4, c4, A5, c5, rfl, _⟩ := h
  exact sdone_any _ _ _ _ _ _ _ _ _ _ _ _ _ _ _ _ _ _ _ _ _ k w2
theorem SwV.now [Inhabited GhT] {w : World} {s t f l p k ep : Int} {r : List (Int × Int)} {ks hz : List Int} {td : List (Int × Bool)} {q0 q1 q2 q3 q4 pk sl hd tr : Int} {fr : List Int} {ju : Int} {v : Value} (h : SwV w s t f l p k ep r ks hz td q0 q1 q2 q3 q4 pk sl hd tr fr ju v) (h1 : r.length ≤ 1000) (h2 : ks.length ≤ 1000) : Calls Tryd.prog 24 #[v] w fun e w' => (∃ A3 c3 A4 c4, e = .returned (.agg #[.slice A3 r.length c3, .slice A4 ks.length c4]) ∧ Tr w' 31 2 (.slice A3 r.length c3) r.length (rec2 r) ∧ Tr w' 29 1 (.slice A4 ks.length c4) ks.length (ints .u64 ks)) ∧ Below w.heap.size w w' := by
  obtain ⟨A1, c1, A2, c2, A3, c3, A4, c4, A5, c5, rfl, t1, t2, _⟩ := h
  exact snow_any _ _ _ _ _ _ _ _ _ _ _ _ _ _ _ _ _ _ _ _ A1 _ c1 A2 _ c2 r ks w h1 h2 t1 t2
namespace SwRun
section
variable {c : SwRun} {n : Nat} {ws : List Int} {k : Int} {w : World} {v : Value}
theorem St.any [Inhabited GhT] (h : St c n ws k w v) : ∃ ep' r ks hz td q0 q1 q2 q3 q4 pk sl hd tr fr ju, SwV w c.s c.t c.f c.l c.p k ep' r ks hz td q0 q1 q2 q3 q4 pk sl hd tr fr ju v := by
  rcases h with ⟨_, _, rfl, h4⟩ | ⟨i, ju, _, _, _, rfl, h5⟩ | ⟨d, e, hd, fr, ju, _, _, _, rfl, _, _, _, _, _, h10⟩ | ⟨rfl, _, ep, hz, td, q0, q1, q2, q3, q4, pk, sl, hd, tr, fr, ju, h3⟩
  · exact ⟨_, _, _, _, _, _, _, _, _, _, _, _, _, _, _, _, h4⟩
  · exact ⟨_, _, _, _, _, _, _, _, _, _, _, _, _, _, _, _, h5⟩
  · exact ⟨_, _, _, _, _, _, _, _, _, _, _, _, _, _, _, _, h10⟩
  · exact ⟨_, _, _, _, _, _, _, _, _, _, _, _, _, _, _, _, h3⟩
theorem St.cells [Inhabited GhT] (h : St c n ws k w v) : ∃ cs : List Value, v = .agg cs.toArray ∧ cs.length = 22 ∧ cs.toArray.all (·.oneCell') = true := by
  obtain ⟨_, _, _, _, _, _, _, _, _, _, _, _, _, _, _, _, h⟩ := h.any
  exact h.cells
theorem St.done [Inhabited GhT] (h : St c n ws k w v) (w2 : World) : Calls Tryd.prog 19 #[v] w2 fun e w' => e = .returned (.bool (k == 0)) ∧ Below w2.heap.size w2 w' := by
  obtain ⟨_, _, _, _, _, _, _, _, _, _, _, _, _, _, _, _, h⟩ := h.any
  exact h.done w2
theorem St.put [Inhabited GhT] {gs : Nat} {cs0 : Array Value} (h : St c n ws k w v) (hb : Blk w gs 51 cs0) (vs : List Value) : St c n ws k (w.setCells gs 0 vs) v := by
  rcases h with ⟨h1, h2, h3, h4⟩ | ⟨i, ju, h1, h2, h3, h4, h5⟩ | ⟨d, e, hd, fr, ju, h1, h2, h3, h4, h5, h6, h7, h8, h9, h10⟩ | ⟨h1, h2, ep, hz, td, q0, q1, q2, q3, q4, pk, sl, hd, tr, fr, ju, h3⟩
  · exact .inl ⟨h1, h2, h3, h4.put hb vs⟩
  · exact .inr (.inl ⟨i, ju, h1, h2, h3, h4, h5.put hb vs⟩)
  · exact .inr (.inr (.inl ⟨d, e, hd, fr, ju, h1, h2, h3, h4, h5, h6, h7, h8, h9, h10.put hb vs⟩))
  · exact .inr (.inr (.inr ⟨h1, h2, ep, hz, td, q0, q1, q2, q3, q4, pk, sl, hd, tr, fr, ju, h3.put hb vs⟩))
theorem St.lt [Inhabited GhT] (h : St c n ws k w v) (hk : k ≠ 0) : n < 1 + c.HZ.length + 3 * c.TD.length := by
  rcases h with ⟨h1, _⟩ | ⟨i, ju, h1, h2, _⟩ | ⟨d, e, hd, fr, ju, h1, h2, h3, _⟩ | ⟨h1, _⟩
  · omega
  · omega
  · omega
  · exact absurd h1 hk
theorem St.stop [Inhabited GhT] (h : St c n ws 0 w v) : c.Wok ws (c.FL c.TD.length) ∧ ∃ ep hz td q0 q1 q2 q3 q4 pk sl hd tr fr ju, SwV w c.s c.t c.f c.l c.p 0 ep (c.RK c.TD.length).1 (c.RK c.TD.length).2 hz td q0 q1 q2 q3 q4 pk sl hd tr fr ju v := by
  rcases h with ⟨_, _, h3, _⟩ | ⟨i, ju, _, _, _, h4, _⟩ | ⟨d, e, hd, fr, ju, _, _, _, h4, _⟩ | ⟨_, h2⟩
  · omega
  · omega
  · omega
  · exact h2
end
end SwRun
end Go.Proofs.YtokcbipmocpllaaDoor

