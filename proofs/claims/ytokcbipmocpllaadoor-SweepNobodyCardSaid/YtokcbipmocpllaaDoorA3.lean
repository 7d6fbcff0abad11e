/-
  slices.IndexFunc, whatever function is asked.
-/
import Derived.Test.YtokcbipmocpllaaDoorA2
namespace Go.Proofs.YtokcbipmocpllaaDoor
open Go.RowKit

/-- The place of the first to which a question says yes; -1: there is none. -/
def idxI {α : Type} (p : α → Bool) : List α → Int
  | [] => -1
  | x :: l => if p x then 0 else if idxI p l < 0 then -1 else idxI p l + 1
theorem idxI_none {α : Type} (p : α → Bool) (l : List α) (h : ∀ x ∈ l, p x = false) : idxI p l = -1 := by
  induction l with
  | nil => rfl
  | cons x l ih =>
    unfold idxI
    rw [ih (fun y hy => h y (List.mem_cons_of_mem _ hy)), h x (List.mem_cons_self ..)]
    simp
theorem idxI_at {α : Type} (p : α → Bool) (l : List α) (k : Nat) (hk : k < l.length) (h : ∀ x ∈ l.take k, p x = false) (hp : p l[k] = true) : idxI p l = k := by
  induction l generalizing k with
  | nil => simp at hk
  | cons x l ih =>
    unfold idxI
    cases k with
    | zero => rw [if_pos (by simpa using hp)]; rfl
    | succ k =>
      have h1 := ih k (by simpa using hk) (fun y hy => h y (by rw [List.take_succ_cons]; exact List.mem_cons_of_mem _ hy)) (by simpa using hp)
      rw [h1, h x (by rw [List.take_succ_cons]; exact List.mem_cons_self ..), if_neg (by simp), if_neg (by omega)]
      omega
theorem none_snoc {α : Type} (p : α → Bool) (l : List α) (k : Nat) (hk : k < l.length) (h : ∀ x ∈ l.take k, p x = false) (hp : p l[k] = false) : ∀ x ∈ l.take (k + 1), p x = false := by
  intro x hx
  rw [List.take_succ_eq_append_getElem hk, List.mem_append, List.mem_singleton] at hx
  rcases hx with hx | rfl
  · exact h x hx
  · exact hp
/-- A list without the first to which a question says yes. -/
theorem idxI_cut {α : Type} (p : α → Bool) (l : List α) : (idxI p l = -1 ∧ l.eraseP p = l) ∨ ∃ k : Nat, idxI p l = k ∧ k < l.length ∧ l.eraseP p = l.take k ++ l.drop (k + 1) := by
  induction l with
  | nil => exact .inl ⟨rfl, rfl⟩
  | cons x l ih =>
    unfold idxI
    by_cases hp : p x = true
    · exact .inr ⟨0, by rw [if_pos hp]; rfl, by simp, by simp [List.eraseP_cons_of_pos hp]⟩
    · rw [if_neg hp, List.eraseP_cons_of_neg hp]
      rcases ih with ⟨h1, h2⟩ | ⟨k, h1, h2, h3⟩
      · exact .inl ⟨by rw [h1]; simp, by rw [h2]⟩
      · exact .inr ⟨k + 1, by rw [h1, if_neg (by omega)]; omega, by simpa using h2, by rw [h3]; simp⟩
def IdxU (n : Nat) (l : List Int) (p : Int → Bool) (w : World) (i : Value) (wr : World) : Prop :=
  ∃ k : Nat, i = .int .i64 k ∧ k ≤ n ∧ Below w.heap.size w wr ∧ ∀ x ∈ l.take k, p x = false
set_option maxHeartbeats 1000000 in
theorem idxU_any (A : Option Addr) (n c : Nat) (l : List Int) (fid : FuncId) (bd caps : Array Value) (p : Int → Bool) (w : World) (hl : l.length = n) (hn : n ≤ 1000) (hr : Reads w w.heap.size 1 A n (ints .u64 l))
    (hcf : ∀ args w', (callFunc fid args).run Tryd.prog w' = .ok (.enter fid args) w')
    (hyes : ∀ x ∈ l, ∀ w', Below w.heap.size w w' → Calls Tryd.prog fid (bd ++ #[.int .u64 x] ++ caps) w' fun e w'' => e = .returned (.bool (p x)) ∧ Below w'.heap.size w' w'') :
    Calls Tryd.prog 93 #[.slice A n c, .func (.func fid) bd caps] w fun e w' => e = .returned (.int .i64 (idxI p l)) ∧ Below w.heap.size w w' := by
  have Hl := hide hl
  have Hy := hide hyes
  clear hl hyes
  go_enter Tryd.func93, Tryd.ntmps93
  go_wp2_with fail
  go_loopw [8] (IdxU n l p w) (fun i _ => n - (intOf i).toNat)
  case atStart => exact ⟨0, rfl, by omega, Below.refl _ _, by simp⟩
  case round =>
    obtain ⟨k, rfl, hk, hb, hno⟩ := hrel
    have Hno := hide hno
    clear hno
    by_cases hlt : k < n
    · obtain ⟨a, rfl, hkl, z1⟩ := (hr.below hb).word hlt
      have Hy1 := hide (Hy.out l[k] (List.getElem_mem hkl))
      have Hst := hide (fun hp => idxI_at p l k hkl Hno.out hp)
      have Hsn := hide (fun hp => none_snoc p l k hkl Hno.out hp)
      generalize l[k] = x at *
      by_cases hp : p x = true
      · have Hp := hide hp
        have Hst := hide (Hst.out hp)
        clear hp Hsn
        go_wp2_with fail
        refine (Hy1.out _ hb).mono ?_
        rintro e w2 ⟨rfl, hb2⟩
        rw [Hp.out]
        replace hb := hb.trans (hb2.mono hb.size)
        clear hb2
        go_wp2_with fail
        go_ret
        exact ⟨by rw [Hst.out]; rfl, hb⟩
      · replace hp : p x = false := by simpa using hp
        have Hp := hide hp
        have Hsn := hide (Hsn.out hp)
        clear hp Hst
        go_wp2_with fail
        refine (Hy1.out _ hb).mono ?_
        rintro e w2 ⟨rfl, hb2⟩
        rw [Hp.out]
        replace hb := hb.trans (hb2.mono hb.size)
        clear hb2
        go_wp2_with fail
        go_roundw
        case measure => simp [intOf]; omega
        case rel => exact ⟨k + 1, by go_num, by omega, hb, Hsn.out⟩
    · have hkn : k = n := by omega
      have HI := hide (idxI_none p l (by have := Hno.out; rwa [List.take_of_length_le (by rw [Hl.out]; omega)] at this))
      subst hkn
      clear hlt
      have hlt2 : ¬ (k : Int) < (k : Int) := by omega
      go_wp2_with fail
      go_ret
      exact ⟨by rw [HI.out]; rfl, hb⟩
def IdxR (n : Nat) (l : List (Int × Int)) (p : (Int × Int) → Bool) (w : World) (i : Value) (wr : World) : Prop :=
  ∃ k : Nat, i = .int .i64 k ∧ k ≤ n ∧ Below w.heap.size w wr ∧ ∀ x ∈ l.take k, p x = false
set_option maxHeartbeats 1000000 in
theorem idxR_any (A : Option Addr) (n c : Nat) (l : List (Int × Int)) (fid : FuncId) (bd caps : Array Value) (p : (Int × Int) → Bool) (w : World) (hl : l.length = n) (hn : n ≤ 1000) (hr : Reads w w.heap.size 2 A n (rec2 l))
    (hcf : ∀ args w', (callFunc fid args).run Tryd.prog w' = .ok (.enter fid args) w')
    (hyes : ∀ x ∈ l, ∀ w', Below w.heap.size w w' → Calls Tryd.prog fid (bd ++ #[.agg #[.int .u64 x.1, .int .u64 x.2]] ++ caps) w' fun e w'' => e = .returned (.bool (p x)) ∧ Below w'.heap.size w' w'') :
    Calls Tryd.prog 63 #[.slice A n c, .func (.func fid) bd caps] w fun e w' => e = .returned (.int .i64 (idxI p l)) ∧ Below w.heap.size w w' := by
  have Hl := hide hl
  have Hy := hide hyes
  clear hl hyes
  go_enter Tryd.func63, Tryd.ntmps63
  go_wp2_with fail
  go_loopw [8] (IdxR n l p w) (fun i _ => n - (intOf i).toNat)
  case atStart => exact ⟨0, rfl, by omega, Below.refl _ _, by simp⟩
  case round =>
    obtain ⟨k, rfl, hk, hb, hno⟩ := hrel
    have Hno := hide hno
    clear hno
    by_cases hlt : k < n
    · obtain ⟨a, rfl, hkl, z1, z2⟩ := (hr.below hb).pair hlt
      have Hy1 := hide (Hy.out l[k] (List.getElem_mem hkl))
      have Hst := hide (fun hp => idxI_at p l k hkl Hno.out hp)
      have Hsn := hide (fun hp => none_snoc p l k hkl Hno.out hp)
      generalize l[k] = x at *
      by_cases hp : p x = true
      · have Hp := hide hp
        have Hst := hide (Hst.out hp)
        clear hp Hsn
        go_wp2_with fail
        refine (Hy1.out _ hb).mono ?_
        rintro e w2 ⟨rfl, hb2⟩
        rw [Hp.out]
        replace hb := hb.trans (hb2.mono hb.size)
        clear hb2
        go_wp2_with fail
        go_ret
        exact ⟨by rw [Hst.out]; rfl, hb⟩
      · replace hp : p x = false := by simpa using hp
        have Hp := hide hp
        have Hsn := hide (Hsn.out hp)
        clear hp Hst
        go_wp2_with fail
        refine (Hy1.out _ hb).mono ?_
        rintro e w2 ⟨rfl, hb2⟩
        rw [Hp.out]
        replace hb := hb.trans (hb2.mono hb.size)
        clear hb2
        go_wp2_with fail
        go_roundw
        case measure => simp [intOf]; omega
        case rel => exact ⟨k + 1, by go_num, by omega, hb, Hsn.out⟩
    · have hkn : k = n := by omega
      have HI := hide (idxI_none p l (by have := Hno.out; rwa [List.take_of_length_le (by rw [Hl.out]; omega)] at this))
      subst hkn
      clear hlt
      have hlt2 : ¬ (k : Int) < (k : Int) := by omega
      go_wp2_with fail
      go_ret
      exact ⟨by rw [HI.out]; rfl, hb⟩
end Go.Proofs.YtokcbipmocpllaaDoor

/-
  slices.Concat of records.
-/
namespace Go.Proofs.YtokcbipmocpllaaDoor
open Go.RowKit

theorem rec2_flat (l : List (Int × Int)) : (rec2 l).length = l.length * 2 := by unfold rec2; induction l <;> simp_all [List.flatMap_cons]; try omega
set_option maxRecDepth 100000 in
set_option maxHeartbeats 400000 in
theorem growr_any (n : Nat) (w : World) (hn : n ≤ 1000000) :
    Calls Tryd.prog 99 #[.slice none 0 0, .int .i64 n] w fun e w' => (∃ v, e = .returned v ∧ w'.ownsRow w.heap.size 31 2 v 0 []) ∧ Below w.heap.size w w' := by
  obtain ⟨i0, hi0, hz0, hs0, hb0⟩ := info_parts infoRecs
  by_cases h0 : n = 0
  · subst h0
    go_enter Tryd.func99, Tryd.ntmps99
    go_wp2_with fail
    go_ret
    exact ⟨⟨_, rfl, World.ownsRow_nil _ _ _ _⟩, Below.refl _ _⟩
  · have hpos : 0 < n := by omega
    have hge : n ≤ grownCap w n 0 31 := grownCap_ge w _ _ _
    have hG : grownCap w n 0 31 ≤ maxLen := grownCap_le_maxLen w n 0 _ (by unfold maxLen; omega)
    have hrz := fun ty => Lib.run_append_nil_zeros (P := Tryd.prog) w 22 3 ty 31 i0 (.agg #[.int .u64 0, .int .u64 0]) .i64 .i64 Tryd.underlying22 Tryd.underlying3 hi0 hz0 n hpos (by omega) (by omega) (by rw [hb0]; omega)
    generalize grownCap w n 0 31 = G at *
    have hown : (w.drew.alloc (.cells (Builtin.zeroCells (Value.agg #[.int .u64 0, .int .u64 0]).cells n ++ Builtin.zeroCells (Value.agg #[.int .u64 0, .int .u64 0]).cells (G - n)) 31)).ownsRow w.heap.size 31 2 (.slice (some ⟨w.heap.size, 0, none⟩) 0 G) 0 [] :=
      World.ownsRow_made w.drew _ G (Nat.le_refl _) hG (by simp only [Array.size_append, size_zeroCells]; have : (Value.agg #[.int .u64 0, .int .u64 0]).cells.size = 2 := rfl; rw [this]; omega)
    have hbel : Below w.heap.size w (w.drew.alloc (.cells (Builtin.zeroCells (Value.agg #[.int .u64 0, .int .u64 0]).cells n ++ Builtin.zeroCells (Value.agg #[.int .u64 0, .int .u64 0]).cells (G - n)) 31)) := (Below.refl _ _).drew.alloc (Nat.le_refl _) _
    generalize w.drew.alloc (.cells (Builtin.zeroCells (Value.agg #[.int .u64 0, .int .u64 0]).cells n ++ Builtin.zeroCells (Value.agg #[.int .u64 0, .int .u64 0]).cells (G - n)) 31) = w2 at *
    have hG63 : G ≤ 9223372036854775807 := by unfold maxLen at hG; omega
    go_enter Tryd.func99, Tryd.ntmps99
    go_wp2_with (at_builtin; refine Lib.wpList_append_run _ rfl _ _ _ _ rfl _ _ rfl rfl _ _ (hrz _) ?_)
    go_ret
    exact ⟨⟨_, rfl, hown⟩, hbel⟩

def catR (ps : List (Value × List (Int × Int))) (k : Nat) : List (Int × Int) := (ps.take k).flatMap (·.2)
theorem catR_succ (ps : List (Value × List (Int × Int))) (k : Nat) (h : k < ps.length) : catR ps (k + 1) = catR ps k ++ ps[k].2 := by
  unfold catR
  rw [List.take_succ_eq_append_getElem h, List.flatMap_append]
  simp
theorem catR_len (ps : List (Value × List (Int × Int))) (k : Nat) : (catR ps k).length ≤ (ps.flatMap (·.2)).length := by
  have h : ps.flatMap (·.2) = catR ps k ++ (ps.drop k).flatMap (·.2) := by
    unfold catR
    rw [← List.flatMap_append, List.take_append_drop]
  rw [h, List.length_append]
  omega
theorem catR_all (ps : List (Value × List (Int × Int))) (k : Nat) (h : ps.length ≤ k) : catR ps k = ps.flatMap (·.2) := by
  unfold catR
  rw [List.take_of_length_le h]

def CatAR (ps : List (Value × List (Int × Int))) (w : World) (v3 i : Value) (wr : World) : Prop :=
  ∃ (k m : Nat), i = .int .i64 k ∧ k ≤ ps.length ∧ v3 = .int .i64 m ∧ m = (catR ps k).length ∧ Below w.heap.size w wr
def CatBR (ps : List (Value × List (Int × Int))) (w : World) (v6 i : Value) (wr : World) : Prop :=
  ∃ (k n1 : Nat), i = .int .i64 k ∧ k ≤ ps.length ∧ wr.ownsRow w.heap.size 31 2 v6 n1 (rec2 (catR ps k)) ∧ n1 = (catR ps k).length ∧ Below w.heap.size w wr

set_option maxRecDepth 100000 in
set_option maxHeartbeats 1000000 in
theorem concatr_any (ps : List (Value × List (Int × Int))) (A : Option Addr) (n c : Nat) (w : World) (hn : ps.length = n) (hn9 : n ≤ 9) (hr : Reads w w.heap.size 1 A n (ps.map (·.1)))
    (hp : ∀ p ∈ ps, Tr w 31 2 p.1 p.2.length (rec2 p.2)) (hl : (ps.flatMap (·.2)).length ≤ 1000000) :
    Calls Tryd.prog 92 #[.slice A n c] w fun e w' => (∃ u, e = .returned u ∧ w'.ownsRow w.heap.size 31 2 u (ps.flatMap (·.2)).length (rec2 (ps.flatMap (·.2)))) ∧ Below w.heap.size w w' := by
  obtain ⟨i0, hi0, hz0, hs0, hb0⟩ := info_parts infoRecs
  go_enter Tryd.func92, Tryd.ntmps92
  go_wp2_with fail
  go_loopw [3, 11] (CatAR ps w) (fun _ i _ => 100 - (intOf i).toNat)
  case atStart => exact ⟨0, 0, rfl, by omega, rfl, rfl, Below.refl _ _⟩
  case round =>
    obtain ⟨k, m, rfl, hk, rfl, hm, hb⟩ := hrel
    by_cases hlt : k < n
    · obtain ⟨ad, u, rfl, hab, hu, hc⟩ := (hr.below hb).at_ hlt
      have hkl : k < ps.length := by omega
      have hu2 : (ps.map (·.1))[k]? = some ps[k].1 := by simp [hkl]
      rw [hu2] at hu
      injection hu with hu
      subst hu
      obtain ⟨A1, c1, e1, h1, h2, h4, h3, _⟩ := hp ps[k] (List.getElem_mem hkl)
      rw [e1] at hc
      have hs := catR_succ ps k hkl
      have hm1 := catR_len ps (k + 1)
      have hm2 : (catR ps (k + 1)).length = m + ps[k].2.length := by rw [hs, List.length_append, hm]
      clear hs e1
      generalize ps[k].2 = xs at *
      have x1 : xs.length ≤ 1000000 := by omega
      have x2 : m ≤ 1000000 := by omega
      have Hm2 := hide hm2
      clear hm2 hm hm1
      generalize xs.length = q at *
      go_wp2_with fail
      go_roundw
      case measure => simp [intOf]; omega
      case rel => exact ⟨k + 1, m + q, by go_num, by omega, by go_num, Hm2.out.symm, hb⟩
    · have hall := catR_all ps k (by omega)
      rw [hall] at hm
      have Hm := hide hm
      have Gr := hide (growr_any m wr (by omega))
      clear hm
      go_wp2_with fail
      refine Gr.out.mono ?_
      rintro e w2 ⟨⟨v, rfl, hown⟩, hb2⟩
      have hb3 := hb.trans (hb2.mono hb.size)
      have hown := own_mono hown hb.size
      go_wp2_with fail
      go_loopw [6, 27] (CatBR ps w) (fun _ i _ => 100 - (intOf i).toNat)
      case atStart => exact ⟨0, 0, rfl, by omega, hown, rfl, hb3⟩
      case round =>
        clear hown hb3 hb2
        clear hlt hall Hm Gr hk
        obtain ⟨j, n1, rfl, hk, hown, hn1, hbj⟩ := hrel
        by_cases hlt : j < n
        · obtain ⟨ad, u, rfl, hab, hu, hc⟩ := (hr.below hbj).at_ hlt
          have hkl : j < ps.length := by omega
          have hu2 : (ps.map (·.1))[j]? = some ps[j].1 := by simp [hkl]
          rw [hu2] at hu
          injection hu with hu
          subst hu
          obtain ⟨A1, c1, e1, h1, h2, h4, h3, _⟩ := hp ps[j] (List.getElem_mem hkl)
          have h3 := h3.below hbj
          rw [e1] at hc
          have hs := catR_succ ps j hkl
          have hm1 := catR_len ps (j + 1)
          have hm2 : (catR ps (j + 1)).length = n1 + ps[j].2.length := by rw [hs, List.length_append, hn1]
          clear e1 hu2
          generalize ps[j].2 = xs at *
          have Hs := hide hs
          have x1 : n1 + xs.length ≤ 1000000 := by omega
          have Hm2 := hide hm2
          have hsz := hbj.size
          clear hm2 hm1 hn1 hs
          go_wp2_with (at_builtin; refine wpList_append_any _ rfl (.tmp 31) (.tmp 32) _ rfl w.heap.size 31 i0 _ 2 16 Tryd.underlying22 hi0 hz0 hs0 hb0 rfl (by omega) u6 n1 _ rfl hown w.heap.size A1 xs.length c1 (rec2 xs) rfl h3 (rec2_one _) (by unfold maxLen; omega) (by omega) hsz ?_; intro v3 w3 hown3 hg3 hat3)
          have hb4 := below_appended hbj hown hg3 (Nat.le_refl _) hsz
          go_roundw
          case measure => simp [intOf]; omega
          case rel => exact ⟨j + 1, n1 + xs.length, by go_num, by omega, by rw [Hs.out, rec2_append]; exact hown3, Hm2.out.symm, hb4⟩
        · have hall := catR_all ps j (by omega)
          rw [hall] at hown hn1
          go_wp2_with fail
          go_ret
          subst hn1
          exact ⟨⟨u6, rfl, hown⟩, hbj⟩

end Go.Proofs.YtokcbipmocpllaaDoor

/-
  sweep.without: a list without the first thing to which a question says yes.
-/
namespace Go.Proofs.YtokcbipmocpllaaDoor
open Go.RowKit

theorem cells_takeU (l : List Int) (k : Nat) : (ints .u64 l).take (k * 1) = ints .u64 (l.take k) := by unfold ints; rw [Nat.mul_one, List.map_take]
theorem cells_dropU (l : List Int) (k : Nat) : (ints .u64 l).drop (k * 1) = ints .u64 (l.drop k) := by unfold ints; rw [Nat.mul_one, List.map_drop]
theorem cells_takeR (l : List (Int × Int)) (k : Nat) : (rec2 l).take (k * 2) = rec2 (l.take k) := by
  induction l generalizing k with
  | nil => simp [rec2]
  | cons x l ih =>
    cases k with
    | zero => simp [rec2]
    | succ k =>
      have h := ih k
      unfold rec2 at h ⊢
      rw [show (k + 1) * 2 = k * 2 + 1 + 1 by omega]
      simp [List.flatMap_cons, h]
theorem cells_dropR (l : List (Int × Int)) (k : Nat) : (rec2 l).drop (k * 2) = rec2 (l.drop k) := by
  induction l generalizing k with
  | nil => simp [rec2]
  | cons x l ih =>
    cases k with
    | zero => simp [rec2]
    | succ k =>
      have h := ih k
      unfold rec2 at h ⊢
      rw [show (k + 1) * 2 = k * 2 + 1 + 1 by omega]
      simp [List.flatMap_cons, h]

theorem catU_two (v1 v2 : Value) (x1 x2 : List Int) (n1 n2 : Nat) (w : World) (g : Nat) (hb : Blk w g 23 #[v1, v2]) (h1 : Tr w 29 1 v1 n1 (ints .u64 x1)) (h2 : Tr w 29 1 v2 n2 (ints .u64 x2)) (hn : (x1 ++ x2).length ≤ 1000000) :
    Calls Tryd.prog 30 #[.slice (some ⟨g, 0, none⟩) 2 2] w fun e w' => (∃ u, e = .returned u ∧ w'.ownsRow w.heap.size 29 1 u (x1 ++ x2).length (ints .u64 (x1 ++ x2))) ∧ Below w.heap.size w w' := by
  have e1 : x1.length = n1 := by have := h1.len; rw [ints_len] at this; omega
  have e2 : x2.length = n2 := by have := h2.len; rw [ints_len] at this; omega
  subst e1 e2
  have h := concat_any [(v1, x1), (v2, x2)] (some ⟨g, 0, none⟩) 2 2 w rfl (by omega) ((Reads.blk hb 2 1 rfl).more hb.lt) (fun p hp => by
    simp only [List.mem_cons, List.not_mem_nil, or_false] at hp
    rcases hp with rfl | rfl
    · exact h1.sl
    · exact h2.sl) (by simpa using hn)
  have e : [(v1, x1), (v2, x2)].flatMap (·.2) = x1 ++ x2 := by simp
  rw [e] at h
  exact h
set_option maxRecDepth 100000 in
set_option maxHeartbeats 2000000 in
theorem withoutU_any (v : Value) (l : List Int) (fid : FuncId) (bd caps : Array Value) (p : Int → Bool) (w : World) (hn : l.length ≤ 1000) (hr : Tr w 29 1 v l.length (ints .u64 l))
    (hcf : ∀ args w', (callFunc fid args).run Tryd.prog w' = .ok (.enter fid args) w')
    (hyes : ∀ x ∈ l, ∀ w', Below w.heap.size w w' → Calls Tryd.prog fid (bd ++ #[.int .u64 x] ++ caps) w' fun e w'' => e = .returned (.bool (p x)) ∧ Below w'.heap.size w' w'') :
    Calls Tryd.prog 71 #[v, .func (.func fid) bd caps] w fun e w' => (∃ u, e = .returned u ∧ Tr w' 29 1 u (l.eraseP p).length (ints .u64 (l.eraseP p))) ∧ Below w.heap.size w w' := by
  obtain ⟨A, c, rfl⟩ := hr.val
  have hcap := hr.cap
  have IX := hide (idxU_any A l.length c l fid bd caps p w rfl hn hr.reads hcf hyes)
  have HR := hide hr
  have HN := hide hn
  clear hyes hcf
  rcases idxI_cut p l with ⟨h1, h2⟩ | ⟨k, h1, h2, h3⟩
  · rw [h1] at IX
    rw [h2]
    clear h1 h2
    go_enter Tryd.func71, Tryd.ntmps71
    go_wp2_with fail
    refine IX.out.mono ?_
    rintro e w1 ⟨rfl, hb⟩
    go_wp2_with fail
    go_ret
    exact ⟨⟨_, rfl, HR.out.below (Nat.le_refl _) hb⟩, hb⟩
  · rw [h1] at IX
    rw [h3]
    clear h1 h3
    have hk1 : (0 : Int) ≤ (k : Int) := by omega
    have hk2 : (k : Int) ≤ (c : Int) := by have := hcap.1; omega
    obtain ⟨m, hm⟩ : ∃ m : Nat, m = k + 1 := ⟨_, rfl⟩
    have hkw : IntKind.i64.wrap ((k : Int) + 1) = (m : Int) := by rw [IntWalk.i64_in _ (by omega)]; omega
    have hk3 : (m : Int) ≤ (l.length : Int) := by omega
    have hk5 : m ≤ l.length := by omega
    have hk6 : (0 : Int) ≤ (m : Int) := by omega
    have HM := hide hm
    have CC := hide (fun w2 v1 v2 g n1 n2 (hb : Blk w2 g 23 #[v1, v2]) h1 h2 => catU_two v1 v2 (l.take k) (l.drop m) n1 n2 w2 g hb h1 h2 (by rw [List.length_append, List.length_take, List.length_drop]; omega))
    have HX := hide (show l.take k ++ l.drop (k + 1) = l.take k ++ l.drop m by rw [hm])
    have hkn : ¬ (k : Int) < 0 := by omega
    have hk4 : (k : Int) ≤ 1000 := by omega
    have hln : (l.length : Int) ≤ (c : Int) := by have := hcap.1; omega
    have hlc : (c : Int) ≤ 9223372036854775807 := by have := hcap.2.1; omega
    have h2N := hide h2
    clear hm
    go_enter Tryd.func71, Tryd.ntmps71
    go_wp2_with fail
    refine IX.out.mono ?_
    rintro e w1 ⟨rfl, hb⟩
    replace hr := HR.out.below (Nat.le_refl _) hb
    go_wp2_with fail
    refine wp_region_heldZ [] (fun w' => True) (by kernel_rfl) (by trivial) (fun hHeld => ?_)
    refine' wpAnyZ_takeA (i := 0) (v := ?_) (opAt rfl) (by kernel_rfl) (by kernel_rfl) (by kernel_rfl) (by kernel_rfl) (fun _ _ _ h => h) (by assumption) (by rfl) (fun w hSw => ?_) ?_
    rotate_left
    · (try dsimp only at hSw); go_simp; (try with_reducible rfl)
    try simp only [Act.put, List.setIfInBounds_toArray, List.set_cons_zero, List.set_cons_succ]
    refine' wpAnyZ_takeA (i := 1) (v := ?_) (opAt rfl) (by kernel_rfl) (by kernel_rfl) (by kernel_rfl) (by kernel_rfl) (fun _ _ _ h => h) (by assumption) (by rfl) (fun w hSw => ?_) ?_
    rotate_left
    · (try dsimp only at hSw); go_simp; (try with_reducible rfl)
    try simp only [Act.put, List.setIfInBounds_toArray, List.set_cons_zero, List.set_cons_succ]
    refine' wpAnyZ_takeA (i := 2) (v := ?_) (opAt rfl) (by kernel_rfl) (by kernel_rfl) (by kernel_rfl) (by kernel_rfl) (fun _ _ _ h => h) (by assumption) (by rfl) (fun w hSw => ?_) ?_
    rotate_left
    · (try dsimp only at hSw); go_simp; (try with_reducible rfl)
    try simp only [Act.put, List.setIfInBounds_toArray, List.set_cons_zero, List.set_cons_succ]
    refine' wpAnyZ_takeA (i := 3) (v := ?_) (opAt rfl) (by kernel_rfl) (by kernel_rfl) (by kernel_rfl) (by kernel_rfl) (fun _ _ _ h => h) (by assumption) (by rfl) (fun w hSw => ?_) ?_
    rotate_left
    · (try dsimp only at hSw); go_simp; (try with_reducible rfl)
    try simp only [Act.put, List.setIfInBounds_toArray, List.set_cons_zero, List.set_cons_succ]
    refine' wpAnyZ_takeA (i := 4) (v := ?_) (opAt rfl) (by kernel_rfl) (by kernel_rfl) (by kernel_rfl) (by kernel_rfl) (fun _ _ _ h => h) (by assumption) (by rfl) (fun w hSw => ?_) ?_
    rotate_left
    · (try dsimp only at hSw); go_simp; (try with_reducible rfl)
    try simp only [Act.put, List.setIfInBounds_toArray, List.set_cons_zero, List.set_cons_succ]
    refine' wpAnyZ_takeA (i := 5) (v := ?_) (opAt rfl) (by kernel_rfl) (by kernel_rfl) (by kernel_rfl) (by kernel_rfl) (fun _ _ _ h => h) (by assumption) (by rfl) (fun w hSw => ?_) ?_
    rotate_left
    · (try dsimp only at hSw); go_simp; (try with_reducible rfl)
    try simp only [Act.put, List.setIfInBounds_toArray, List.set_cons_zero, List.set_cons_succ]
    refine' wpAnyZ_takeA (i := 6) (v := ?_) (opAt rfl) (by kernel_rfl) (by kernel_rfl) (by kernel_rfl) (by kernel_rfl) (fun _ _ _ h => h) (by assumption) (by rfl) (fun w hSw => ?_) ?_
    rotate_left
    · (try dsimp only at hSw); go_simp; (try with_reducible rfl)
    try simp only [Act.put, List.setIfInBounds_toArray, List.set_cons_zero, List.set_cons_succ]
    refine wpAnyZ_ready (rs := [7]) (by kernel_rfl) (by simp) ?_
    refine AllReadyZ.cons (opAt rfl) (fun K hK => ?_) ?_
    · skip
      go_simp
      have bl := (Blk.new w1 23 #[.slice A k c, (.slice (if c = m then A else Option.map (fun x => x.add m) A) (l.length - m) (c - m))])
      replace hr := hr.alloc (.cells #[.slice A k c, (.slice (if c = m then A else Option.map (fun x => x.add m) A) (l.length - m) (c - m))] 23)
      replace hb := hb.alloc hb.size (.cells #[.slice A k c, (.slice (if c = m then A else Option.map (fun x => x.add m) A) (l.length - m) (c - m))] 23)
      have t1 := (hr.pre (k := k) (by have := h2N.out; omega)).of_eq (cells_takeU _ _)
      have t2 := (hr.cut (k := m) hk5).of_eq (cells_dropU _ _)
      rw [Nat.mul_one] at t2
      generalize (if c = m then A else Option.map (fun x => x.add m) A) = A2 at *
      refine hK.out _ _ (by trivial) (fun hHeld => ?_)
      clear hK K
      try simp only [Act.put, List.setIfInBounds_toArray, List.set_cons_zero, List.set_cons_succ]
      refine wpAnyZ_ready (rs := [8]) (by kernel_rfl) (by simp) ?_
      refine AllReadyZ.cons (opAt rfl) (fun K hK => ?_) ?_
      · skip
        go_simp
        refine (CC.out _ _ _ _ _ _ (bl.drew) (t1.drew) (t2.drew)).mono ?_
        rintro e w3 ⟨⟨u3, rfl, o3⟩, hb3⟩
        replace hb := hb.drew.trans (hb3.mono hb.size)
        try go_wp2_with fail
        refine hK.out _ _ (by trivial) (fun hHeld => ?_)
        clear hK K
        try simp only [Act.put, List.setIfInBounds_toArray, List.set_cons_zero, List.set_cons_succ]
        refine' wpAnyZ_takeA (i := 9) (v := ?_) (opAt rfl) (by kernel_rfl) (by kernel_rfl) (by kernel_rfl) (by kernel_rfl) (fun _ _ _ h => h) (by assumption) (by rfl) (fun w hSw => ?_) ?_
        rotate_left
        · (try dsimp only at hSw); go_simp; (try with_reducible rfl)
        try simp only [Act.put, List.setIfInBounds_toArray, List.set_cons_zero, List.set_cons_succ]
        refine wpAnyZ_done (by kernel_rfl) ?_ _
        go_wp2_with fail
        go_ret
        exact ⟨⟨_, rfl, by rw [HX.out]; exact Tr.of_own o3⟩, hb⟩
      exact AllReadyZ.nil
    exact AllReadyZ.nil
theorem catR_two (v1 v2 : Value) (x1 x2 : List (Int × Int)) (n1 n2 : Nat) (w : World) (g : Nat) (hb : Blk w g 22 #[v1, v2]) (h1 : Tr w 31 2 v1 n1 (rec2 x1)) (h2 : Tr w 31 2 v2 n2 (rec2 x2)) (hn : (x1 ++ x2).length ≤ 1000000) :
    Calls Tryd.prog 92 #[.slice (some ⟨g, 0, none⟩) 2 2] w fun e w' => (∃ u, e = .returned u ∧ w'.ownsRow w.heap.size 31 2 u (x1 ++ x2).length (rec2 (x1 ++ x2))) ∧ Below w.heap.size w w' := by
  have e1 : x1.length = n1 := by have := h1.len; rw [rec2_flat] at this; omega
  have e2 : x2.length = n2 := by have := h2.len; rw [rec2_flat] at this; omega
  subst e1 e2
  have h := concatr_any [(v1, x1), (v2, x2)] (some ⟨g, 0, none⟩) 2 2 w rfl (by omega) ((Reads.blk hb 2 1 rfl).more hb.lt) (fun p hp => by
    simp only [List.mem_cons, List.not_mem_nil, or_false] at hp
    rcases hp with rfl | rfl
    · exact h1
    · exact h2) (by simpa using hn)
  have e : [(v1, x1), (v2, x2)].flatMap (·.2) = x1 ++ x2 := by simp
  rw [e] at h
  exact h
set_option maxRecDepth 100000 in
set_option maxHeartbeats 2000000 in
theorem withoutR_any (v : Value) (l : List (Int × Int)) (fid : FuncId) (bd caps : Array Value) (p : (Int × Int) → Bool) (w : World) (hn : l.length ≤ 1000) (hr : Tr w 31 2 v l.length (rec2 l))
    (hcf : ∀ args w', (callFunc fid args).run Tryd.prog w' = .ok (.enter fid args) w')
    (hyes : ∀ x ∈ l, ∀ w', Below w.heap.size w w' → Calls Tryd.prog fid (bd ++ #[.agg #[.int .u64 x.1, .int .u64 x.2]] ++ caps) w' fun e w'' => e = .returned (.bool (p x)) ∧ Below w'.heap.size w' w'') :
    Calls Tryd.prog 68 #[v, .func (.func fid) bd caps] w fun e w' => (∃ u, e = .returned u ∧ Tr w' 31 2 u (l.eraseP p).length (rec2 (l.eraseP p))) ∧ Below w.heap.size w w' := by
  obtain ⟨A, c, rfl⟩ := hr.val
  have hcap := hr.cap
  have IX := hide (idxR_any A l.length c l fid bd caps p w rfl hn hr.reads hcf hyes)
  have HR := hide hr
  have HN := hide hn
  clear hyes hcf
  rcases idxI_cut p l with ⟨h1, h2⟩ | ⟨k, h1, h2, h3⟩
  · rw [h1] at IX
    rw [h2]
    clear h1 h2
    go_enter Tryd.func68, Tryd.ntmps68
    go_wp2_with fail
    refine IX.out.mono ?_
    rintro e w1 ⟨rfl, hb⟩
    go_wp2_with fail
    go_ret
    exact ⟨⟨_, rfl, HR.out.below (Nat.le_refl _) hb⟩, hb⟩
  · rw [h1] at IX
    rw [h3]
    clear h1 h3
    have hk1 : (0 : Int) ≤ (k : Int) := by omega
    have hk2 : (k : Int) ≤ (c : Int) := by have := hcap.1; omega
    obtain ⟨m, hm⟩ : ∃ m : Nat, m = k + 1 := ⟨_, rfl⟩
    have hkw : IntKind.i64.wrap ((k : Int) + 1) = (m : Int) := by rw [IntWalk.i64_in _ (by omega)]; omega
    have hk3 : (m : Int) ≤ (l.length : Int) := by omega
    have hk5 : m ≤ l.length := by omega
    have hk6 : (0 : Int) ≤ (m : Int) := by omega
    have HM := hide hm
    have CC := hide (fun w2 v1 v2 g n1 n2 (hb : Blk w2 g 22 #[v1, v2]) h1 h2 => catR_two v1 v2 (l.take k) (l.drop m) n1 n2 w2 g hb h1 h2 (by rw [List.length_append, List.length_take, List.length_drop]; omega))
    have HX := hide (show l.take k ++ l.drop (k + 1) = l.take k ++ l.drop m by rw [hm])
    have hkn : ¬ (k : Int) < 0 := by omega
    have hk4 : (k : Int) ≤ 1000 := by omega
    have hln : (l.length : Int) ≤ (c : Int) := by have := hcap.1; omega
    have hlc : (c : Int) ≤ 9223372036854775807 := by have := hcap.2.1; omega
    have h2N := hide h2
    clear hm
    go_enter Tryd.func68, Tryd.ntmps68
    go_wp2_with fail
    refine IX.out.mono ?_
    rintro e w1 ⟨rfl, hb⟩
    replace hr := HR.out.below (Nat.le_refl _) hb
    go_wp2_with fail
    refine wp_region_heldZ [] (fun w' => True) (by kernel_rfl) (by trivial) (fun hHeld => ?_)
    refine' wpAnyZ_takeA (i := 0) (v := ?_) (opAt rfl) (by kernel_rfl) (by kernel_rfl) (by kernel_rfl) (by kernel_rfl) (fun _ _ _ h => h) (by assumption) (by rfl) (fun w hSw => ?_) ?_
    rotate_left
    · (try dsimp only at hSw); go_simp; (try with_reducible rfl)
    try simp only [Act.put, List.setIfInBounds_toArray, List.set_cons_zero, List.set_cons_succ]
    refine' wpAnyZ_takeA (i := 1) (v := ?_) (opAt rfl) (by kernel_rfl) (by kernel_rfl) (by kernel_rfl) (by kernel_rfl) (fun _ _ _ h => h) (by assumption) (by rfl) (fun w hSw => ?_) ?_
    rotate_left
    · (try dsimp only at hSw); go_simp; (try with_reducible rfl)
    try simp only [Act.put, List.setIfInBounds_toArray, List.set_cons_zero, List.set_cons_succ]
    refine' wpAnyZ_takeA (i := 2) (v := ?_) (opAt rfl) (by kernel_rfl) (by kernel_rfl) (by kernel_rfl) (by kernel_rfl) (fun _ _ _ h => h) (by assumption) (by rfl) (fun w hSw => ?_) ?_
    rotate_left
    · (try dsimp only at hSw); go_simp; (try with_reducible rfl)
    try simp only [Act.put, List.setIfInBounds_toArray, List.set_cons_zero, List.set_cons_succ]
    refine' wpAnyZ_takeA (i := 3) (v := ?_) (opAt rfl) (by kernel_rfl) (by kernel_rfl) (by kernel_rfl) (by kernel_rfl) (fun _ _ _ h => h) (by assumption) (by rfl) (fun w hSw => ?_) ?_
    rotate_left
    · (try dsimp only at hSw); go_simp; (try with_reducible rfl)
    try simp only [Act.put, List.setIfInBounds_toArray, List.set_cons_zero, List.set_cons_succ]
    refine' wpAnyZ_takeA (i := 4) (v := ?_) (opAt rfl) (by kernel_rfl) (by kernel_rfl) (by kernel_rfl) (by kernel_rfl) (fun _ _ _ h => h) (by assumption) (by rfl) (fun w hSw => ?_) ?_
    rotate_left
    · (try dsimp only at hSw); go_simp; (try with_reducible rfl)
    try simp only [Act.put, List.setIfInBounds_toArray, List.set_cons_zero, List.set_cons_succ]
    refine' wpAnyZ_takeA (i := 5) (v := ?_) (opAt rfl) (by kernel_rfl) (by kernel_rfl) (by kernel_rfl) (by kernel_rfl) (fun _ _ _ h => h) (by assumption) (by rfl) (fun w hSw => ?_) ?_
    rotate_left
    · (try dsimp only at hSw); go_simp; (try with_reducible rfl)
    try simp only [Act.put, List.setIfInBounds_toArray, List.set_cons_zero, List.set_cons_succ]
    refine' wpAnyZ_takeA (i := 6) (v := ?_) (opAt rfl) (by kernel_rfl) (by kernel_rfl) (by kernel_rfl) (by kernel_rfl) (fun _ _ _ h => h) (by assumption) (by rfl) (fun w hSw => ?_) ?_
    rotate_left
    · (try dsimp only at hSw); go_simp; (try with_reducible rfl)
    try simp only [Act.put, List.setIfInBounds_toArray, List.set_cons_zero, List.set_cons_succ]
    refine wpAnyZ_ready (rs := [7]) (by kernel_rfl) (by simp) ?_
    refine AllReadyZ.cons (opAt rfl) (fun K hK => ?_) ?_
    · skip
      go_simp
      have bl := (Blk.new w1 22 #[.slice A k c, (.slice (if c = m then A else Option.map (fun x => x.add (m * 2)) A) (l.length - m) (c - m))])
      replace hr := hr.alloc (.cells #[.slice A k c, (.slice (if c = m then A else Option.map (fun x => x.add (m * 2)) A) (l.length - m) (c - m))] 22)
      replace hb := hb.alloc hb.size (.cells #[.slice A k c, (.slice (if c = m then A else Option.map (fun x => x.add (m * 2)) A) (l.length - m) (c - m))] 22)
      have t1 := (hr.pre (k := k) (by have := h2N.out; omega)).of_eq (cells_takeR _ _)
      have t2 := (hr.cut (k := m) hk5).of_eq (cells_dropR _ _)
      generalize (if c = m then A else Option.map (fun x => x.add (m * 2)) A) = A2 at *
      refine hK.out _ _ (by trivial) (fun hHeld => ?_)
      clear hK K
      try simp only [Act.put, List.setIfInBounds_toArray, List.set_cons_zero, List.set_cons_succ]
      refine wpAnyZ_ready (rs := [8]) (by kernel_rfl) (by simp) ?_
      refine AllReadyZ.cons (opAt rfl) (fun K hK => ?_) ?_
      · skip
        go_simp
        refine (CC.out _ _ _ _ _ _ (bl.drew) (t1.drew) (t2.drew)).mono ?_
        rintro e w3 ⟨⟨u3, rfl, o3⟩, hb3⟩
        replace hb := hb.drew.trans (hb3.mono hb.size)
        try go_wp2_with fail
        refine hK.out _ _ (by trivial) (fun hHeld => ?_)
        clear hK K
        try simp only [Act.put, List.setIfInBounds_toArray, List.set_cons_zero, List.set_cons_succ]
        refine' wpAnyZ_takeA (i := 9) (v := ?_) (opAt rfl) (by kernel_rfl) (by kernel_rfl) (by kernel_rfl) (by kernel_rfl) (fun _ _ _ h => h) (by assumption) (by rfl) (fun w hSw => ?_) ?_
        rotate_left
        · (try dsimp only at hSw); go_simp; (try with_reducible rfl)
        try simp only [Act.put, List.setIfInBounds_toArray, List.set_cons_zero, List.set_cons_succ]
        refine wpAnyZ_done (by kernel_rfl) ?_ _
        go_wp2_with fail
        go_ret
        exact ⟨⟨_, rfl, by rw [HX.out]; exact Tr.of_own o3⟩, hb⟩
      exact AllReadyZ.nil
    exact AllReadyZ.nil
end Go.Proofs.YtokcbipmocpllaaDoor

/-
  Package sweep: its questions: is a record ripe, is it the one that goes.
-/
namespace Go.Proofs.YtokcbipmocpllaaDoor
open Go.RowKit

/-- A load of many cells under a guard that says yes. -/
theorem wpList_load_midG {P : Program} {ops : Array Oper} {rest : List Oper} {op : Oper} {a : Act} {w : World} {Q : Exit → Act → World → Prop} (hw : Region.wanted op (yielded ops a.tmps) = true) (ty : TypeId) (x : Operand) (ho : op.op = .load ty x)
    (b o : Nat) (hx : a.eval x = .pointer (some ⟨b, o, none⟩)) (cs : List Value) (d : TypeDesc) (hc : w.rangeAt b o cs)
    (hu : P.underlying ty = some d) (hd : d.isRow = true) (hi : (P.info? ty).map (·.size) = some cs.length)
    (h : wpList P ops Q rest (a.put op.dst (.agg cs.toArray)) w) : wpList P ops Q (op :: rest) a w :=
  wpList_step fun K hK => by
    simp only [hw, if_true]
    exact wp_load_mid ty x ho b o hx cs d hc hu hd hi (hK _ _ h)

set_option maxRecDepth 100000 in
set_option maxHeartbeats 4000000 in
theorem sripe_any (v0 v1 v2 v3 v4 v5 v6 v7 v9 v10 v11 v12 v13 v14 v15 v16 v17 v18 v19 v20 v21 : Value) (ep h e : Int) (w : World) (he : W64 e) (hp : W64 ep) :
    Calls Tryd.prog 44 #[.agg #[v0, v1, v2, v3, v4, v5, v6, v7, .int .u64 ep, v9, v10, v11, v12, v13, v14, v15, v16, v17, v18, v19, v20, v21], .agg #[.int .u64 h, .int .u64 e]] w fun r w' => r = .returned (.bool (ripeB e ep)) ∧ Below w.heap.size w w' := by
  have RP := hide (fun w2 => Ripe_any h e ep w2 he hp)
  have B0 := ((Below.refl w.heap.size w).alloc (Nat.le_refl _) (.cells #[v0, v1, v2, v3, v4, v5, v6, v7, .int .u64 ep, v9, v10, v11, v12, v13, v14, v15, v16, v17, v18, v19, v20, v21] 51)).alloc (by simp only [World.size_alloc]; omega) (.cells #[.int .u64 h, .int .u64 e] 31)
  go_enter Tryd.func44, Tryd.ntmps44
  go_wp2_with fail
  refine (RP.out _).mono ?_
  rintro r w1 ⟨rfl, hb⟩
  go_wp2_with fail
  go_ret
  exact ⟨rfl, B0.trans (hb.mono B0.size)⟩
set_option maxRecDepth 100000 in
set_option maxHeartbeats 4000000 in
theorem gone1_any (x h : Int) (kp : Value) (w : World) (g : Nat) (hb : Blk w g 82 #[.int .u64 h, kp]) :
    Calls Tryd.prog 72 #[.int .u64 x, .pointer (some ⟨g, 0, none⟩)] w fun r w' => r = .returned (.bool (x == h)) ∧ Below w.heap.size w w' := by
  have mx := fun i => hb.cell i
  go_enter Tryd.func72, Tryd.ntmps72
  go_wp2_with fail
  go_ret
  exact ⟨rfl, Below.refl _ _⟩
set_option maxRecDepth 100000 in
set_option maxHeartbeats 4000000 in
theorem gone2_any (v0 v1 v2 v3 v4 v5 v6 v7 v9 v10 v11 v12 v13 v14 v15 v16 v17 v18 v19 v20 v21 : Value) (ep h e h0 : Int) (kp : Value) (w : World) (gx gs : Nat) (he : W64 e) (hp : W64 ep) (hx : Blk w gx 82 #[.int .u64 h0, kp]) (hs : Blk w gs 51 #[v0, v1, v2, v3, v4, v5, v6, v7, .int .u64 ep, v9, v10, v11, v12, v13, v14, v15, v16, v17, v18, v19, v20, v21]) :
    Calls Tryd.prog 73 #[.agg #[.int .u64 h, .int .u64 e], .pointer (some ⟨gx, 0, none⟩), .pointer (some ⟨gs, 0, none⟩)] w fun r w' => r = .returned (.bool (h == h0 && ripeB e ep)) ∧ Below w.heap.size w w' := by
  have RP := hide (fun w2 => sripe_any v0 v1 v2 v3 v4 v5 v6 v7 v9 v10 v11 v12 v13 v14 v15 v16 v17 v18 v19 v20 v21 ep h e w2 he hp)
  have B0 := ((Below.refl w.heap.size w).alloc (Nat.le_refl _) (.cells #[.int .u64 h, .int .u64 e] 31))
  replace hx := hx.alloc (.cells #[.int .u64 h, .int .u64 e] 31)
  replace hs := hs.alloc (.cells #[.int .u64 h, .int .u64 e] 31)
  have hr := Blk.new w 31 #[.int .u64 h, .int .u64 e]
  have mx := fun i => hx.cell i
  have mr := fun i => hr.cell i
  have R3 := hs.range
  rcases hq : (h == h0) with _ | _
  · rw [Bool.false_and]
    go_enter Tryd.func73, Tryd.ntmps73
    go_wp2_with fail
    go_ret
    exact ⟨rfl, B0⟩
  · rw [Bool.true_and]
    go_enter Tryd.func73, Tryd.ntmps73
    go_wp2_with (first | (refine wpList_load_midG (by rfl) 51 (.tmp 2) rfl gs 0 (by rfl) [v0, v1, v2, v3, v4, v5, v6, v7, .int .u64 ep, v9, v10, v11, v12, v13, v14, v15, v16, v17, v18, v19, v20, v21] _ R3 Tryd.underlying51 rfl (by kernel_rfl) ?_))
    refine (RP.out _).mono ?_
    rintro r w1 ⟨rfl, hb⟩
    go_wp2_with fail
    go_ret
    exact ⟨rfl, B0.trans (hb.mono B0.size)⟩
set_option maxRecDepth 100000 in
set_option maxHeartbeats 4000000 in
theorem asked1_any (v0 v1 v2 v3 v4 v5 v6 v7 v9 v10 v11 v12 v13 v14 v15 v16 v17 v18 v19 v20 v21 : Value) (ep h e h0 : Int) (w : World) (gx gs : Nat) (he : W64 e) (hp : W64 ep) (hx : Blk w gx 29 #[.int .u64 h0]) (hs : Blk w gs 51 #[v0, v1, v2, v3, v4, v5, v6, v7, .int .u64 ep, v9, v10, v11, v12, v13, v14, v15, v16, v17, v18, v19, v20, v21]) :
    Calls Tryd.prog 69 #[.agg #[.int .u64 h, .int .u64 e], .pointer (some ⟨gx, 0, none⟩), .pointer (some ⟨gs, 0, none⟩)] w fun r w' => r = .returned (.bool (h == h0 && ripeB e ep)) ∧ Below w.heap.size w w' := by
  have RP := hide (fun w2 => sripe_any v0 v1 v2 v3 v4 v5 v6 v7 v9 v10 v11 v12 v13 v14 v15 v16 v17 v18 v19 v20 v21 ep h e w2 he hp)
  have B0 := ((Below.refl w.heap.size w).alloc (Nat.le_refl _) (.cells #[.int .u64 h, .int .u64 e] 31))
  replace hx := hx.alloc (.cells #[.int .u64 h, .int .u64 e] 31)
  replace hs := hs.alloc (.cells #[.int .u64 h, .int .u64 e] 31)
  have hr := Blk.new w 31 #[.int .u64 h, .int .u64 e]
  have mx := fun i => hx.cell i
  have mr := fun i => hr.cell i
  have R3 := hs.range
  rcases hq : (h == h0) with _ | _
  · rw [Bool.false_and]
    go_enter Tryd.func69, Tryd.ntmps69
    go_wp2_with fail
    go_ret
    exact ⟨rfl, B0⟩
  · rw [Bool.true_and]
    go_enter Tryd.func69, Tryd.ntmps69
    go_wp2_with (first | (refine wpList_load_midG (by rfl) 51 (.tmp 2) rfl gs 0 (by rfl) [v0, v1, v2, v3, v4, v5, v6, v7, .int .u64 ep, v9, v10, v11, v12, v13, v14, v15, v16, v17, v18, v19, v20, v21] _ R3 Tryd.underlying51 rfl (by kernel_rfl) ?_))
    refine (RP.out _).mono ?_
    rintro r w1 ⟨rfl, hb⟩
    go_wp2_with fail
    go_ret
    exact ⟨rfl, B0.trans (hb.mono B0.size)⟩
theorem idxI_any {α : Type} (p : α → Bool) (l : List α) : decide (0 ≤ idxI p l) = l.any p := by
  rcases idxI_cut p l with ⟨h, h2⟩ | ⟨k, h, h2, h3⟩
  · rw [h]
    have : ∀ x ∈ l, p x = false := by
      intro x hx
      rcases hp : p x with _ | _
      · rfl
      · exfalso
        have h9 := List.length_eraseP_of_mem hx hp
        rw [h2] at h9
        have := List.length_pos_of_mem hx
        omega
    rw [show l.any p = false by rw [List.any_eq_false]; intro x hx; rw [this x hx]; simp]
    rfl
  · rw [h, show decide ((0 : Int) ≤ (k : Int)) = true by simp]
    symm
    rcases ha : l.any p with _ | _
    · exfalso
      have h9 := List.any_eq_false.1 ha
      have := idxI_none p l (fun x hx => by simpa using h9 x hx)
      omega
    · rfl
set_option maxHeartbeats 400000 in
theorem containsr_any (A : Option Addr) (n c : Nat) (l : List (Int × Int)) (fid : FuncId) (bd caps : Array Value) (p : (Int × Int) → Bool) (w : World) (hl : l.length = n) (hn : n ≤ 1000) (hr : Reads w w.heap.size 2 A n (rec2 l))
    (hcf : ∀ args w', (callFunc fid args).run Tryd.prog w' = .ok (.enter fid args) w')
    (hyes : ∀ x ∈ l, ∀ w', Below w.heap.size w w' → Calls Tryd.prog fid (bd ++ #[.agg #[.int .u64 x.1, .int .u64 x.2]] ++ caps) w' fun e w'' => e = .returned (.bool (p x)) ∧ Below w'.heap.size w' w'') :
    Calls Tryd.prog 43 #[.slice A n c, .func (.func fid) bd caps] w fun e w' => e = .returned (.bool (l.any p)) ∧ Below w.heap.size w w' := by
  have IX := hide (idxR_any A n c l fid bd caps p w hl hn hr hcf hyes)
  have HA := hide (show decide (0 ≤ idxI p l) = l.any p from idxI_any p l)
  clear hyes hcf hr
  generalize idxI p l = i at *
  go_enter Tryd.func43, Tryd.ntmps43
  go_wp2_with fail
  refine IX.out.mono ?_
  rintro e w1 ⟨rfl, hb⟩
  go_wp2_with fail
  go_ret
  exact ⟨by rw [← HA.out]; rfl, hb⟩
end Go.Proofs.YtokcbipmocpllaaDoor

/-
  Package sweep: a handle goes from its list.
-/
namespace Go.Proofs.YtokcbipmocpllaaDoor
open Go.RowKit

/-- Pairs of a word and a truth value, as cells. -/
def ones (l : List (Int × Bool)) : List Value := l.flatMap fun x => [.int .u64 x.1, .bool x.2]
theorem ones_len (l : List (Int × Bool)) : (ones l).length = l.length * 2 := by unfold ones; induction l <;> simp_all [List.flatMap_cons]; try omega
/-- v is a sweep of these parts, whose lists lie in this world. -/
def SwV (w : World) (s t f l p k ep : Int) (r : List (Int × Int)) (ks hz : List Int) (td : List (Int × Bool)) (q0 q1 q2 q3 q4 pk sl hd tr : Int) (fr : List Int) (ju : Int) (v : Value) : Prop :=
  ∃ A1 c1 A2 c2 A3 c3 A4 c4 A5 c5, v = .agg #[.slice A1 r.length c1, .slice A2 ks.length c2, .int .i64 s, .int .i64 t, .int .i64 f, .int .i64 l, .int .i64 p, .int .i64 k, .int .u64 ep, .slice A3 hz.length c3, .slice A4 td.length c4, .int .i64 q0, .int .i64 q1, .int .i64 q2, .int .i64 q3, .int .i64 q4, .int .i64 pk, .int .i64 sl, .int .u64 hd, .int .i64 tr, .slice A5 fr.length c5, .int .i64 ju] ∧ Tr w 31 2 (.slice A1 r.length c1) r.length (rec2 r) ∧ Tr w 29 1 (.slice A2 ks.length c2) ks.length (ints .u64 ks) ∧ Tr w 29 1 (.slice A3 hz.length c3) hz.length (ints .u64 hz) ∧ Tr w 82 2 (.slice A4 td.length c4) td.length (ones td) ∧ Tr w 29 1 (.slice A5 fr.length c5) fr.length (ints .u64 fr)
theorem SwV.below {w w' : World} {s t f l p k ep : Int} {r : List (Int × Int)} {ks hz : List Int} {td : List (Int × Bool)} {q0 q1 q2 q3 q4 pk sl hd tr : Int} {fr : List Int} {ju : Int} {v : Value} {B : Nat} (h : SwV w s t f l p k ep r ks hz td q0 q1 q2 q3 q4 pk sl hd tr fr ju v) (hB : w.heap.size ≤ B) (hb : Below B w w') : SwV w' s t f l p k ep r ks hz td q0 q1 q2 q3 q4 pk sl hd tr fr ju v := by
  obtain ⟨A1, c1, A2, c2, A3, c3, A4, c4, A5, c5, rfl, t1, t2, t3, t4, t5⟩ := h
  exact ⟨A1, c1, A2, c2, A3, c3, A4, c4, A5, c5, rfl, t1.below hB hb, t2.below hB hb, t3.below hB hb, t4.below hB hb, t5.below hB hb⟩
theorem Tr.holds {w : World} {e : TypeId} {s n : Nat} {A : Option Addr} {c : Nat} {xs : List Value} (h : Tr w e s (.slice A n c) n xs) : ∀ b, A = some b → ∀ (j : Nat) u, xs[j]? = some u → w.cell? (b.add j) = some u := by
  intro b hb j u hj
  have hr := h.reads
  have hl := hr.1
  have h0 : 0 < n := by
    rcases Nat.eq_zero_or_pos n with h0 | h0
    · subst h0
      have : xs = [] := List.eq_nil_of_length_eq_zero (by simpa using hl)
      subst this
      simp at hj
    · exact h0
  obtain ⟨ad, e1, _, hc⟩ := hr.2 h0
  rw [hb] at e1
  injection e1 with e1
  subst e1
  exact hc j u hj

set_option maxHeartbeats 400000 in
theorem clipu_any (A : Option Addr) (n c : Nat) (w : World) (hn : n ≤ c) (_hc : c ≤ 9223372036854775807) :
    Calls Tryd.prog 45 #[.slice A n c] w fun e w' => e = .returned (.slice A n n) ∧ w = w' := by
  have h1 : (n : Int) ≤ (c : Int) := by omega
  go_enter Tryd.func45, Tryd.ntmps45
  go_wp2_with fail
  go_ret
  exact ⟨rfl, rfl⟩
set_option linter.unusedSimpArgs false in
set_option maxRecDepth 100000 in
set_option maxHeartbeats 4000000 in
theorem sgone_k (s t f l p k ep : Int) (r : List (Int × Int)) (ks hz : List Int) (td : List (Int × Bool)) (q0 q1 q2 q3 q4 pk sl hd tr : Int) (fr : List Int) (ju : Int) (h : Int) (v : Value) (w : World) (hv : SwV w s t f l p k ep r ks hz td q0 q1 q2 q3 q4 pk sl hd tr fr ju v) (h1 : r.length ≤ 1000) (h2 : ks.length ≤ 1000) (h5 : fr.length ≤ 1000) :
    Calls Tryd.prog 50 #[v, .agg #[.int .u64 h, .bool true]] w fun e w' => (∃ v', e = .returned v' ∧ SwV w' s t f l p k ep r (ks.eraseP fun x => x == h) hz td q0 q1 q2 q3 q4 pk sl hd tr (fr ++ [h]) ju v') ∧ Below w.heap.size w w' := by
  obtain ⟨A1, c1, A2, c2, A3, c3, A4, c4, A5, c5, rfl, t1, t2, t3, t4, t5⟩ := hv
  obtain ⟨i0, hi0, hz0, hs0, hb0⟩ := info_parts infoU64
  have B0 := (((Below.refl w.heap.size w).alloc (Nat.le_refl _) (.cells #[.slice A1 r.length c1, .slice A2 ks.length c2, .int .i64 s, .int .i64 t, .int .i64 f, .int .i64 l, .int .i64 p, .int .i64 k, .int .u64 ep, .slice A3 hz.length c3, .slice A4 td.length c4, .int .i64 q0, .int .i64 q1, .int .i64 q2, .int .i64 q3, .int .i64 q4, .int .i64 pk, .int .i64 sl, .int .u64 hd, .int .i64 tr, .slice A5 fr.length c5, .int .i64 ju] 51)).alloc (by simp only [World.size_alloc]; omega) (.cells #[.int .u64 h, .bool true] 82)).alloc (by simp only [World.size_alloc]; omega) (.cells #[.slice none 0 0, .slice none 0 0, .int .i64 0, .int .i64 0, .int .i64 0, .int .i64 0, .int .i64 0, .int .i64 0, .int .u64 0, .slice none 0 0, .slice none 0 0, .int .i64 0, .int .i64 0, .int .i64 0, .int .i64 0, .int .i64 0, .int .i64 0, .int .i64 0, .int .u64 0, .int .i64 0, .slice none 0 0, .int .i64 0] 51)
  have bs := ((Blk.new w 51 #[.slice A1 r.length c1, .slice A2 ks.length c2, .int .i64 s, .int .i64 t, .int .i64 f, .int .i64 l, .int .i64 p, .int .i64 k, .int .u64 ep, .slice A3 hz.length c3, .slice A4 td.length c4, .int .i64 q0, .int .i64 q1, .int .i64 q2, .int .i64 q3, .int .i64 q4, .int .i64 pk, .int .i64 sl, .int .u64 hd, .int .i64 tr, .slice A5 fr.length c5, .int .i64 ju]).alloc (.cells #[.int .u64 h, .bool true] 82)).alloc (.cells #[.slice none 0 0, .slice none 0 0, .int .i64 0, .int .i64 0, .int .i64 0, .int .i64 0, .int .i64 0, .int .i64 0, .int .u64 0, .slice none 0 0, .slice none 0 0, .int .i64 0, .int .i64 0, .int .i64 0, .int .i64 0, .int .i64 0, .int .i64 0, .int .i64 0, .int .u64 0, .int .i64 0, .slice none 0 0, .int .i64 0] 51)
  have bx := (Blk.new (w.alloc (.cells #[.slice A1 r.length c1, .slice A2 ks.length c2, .int .i64 s, .int .i64 t, .int .i64 f, .int .i64 l, .int .i64 p, .int .i64 k, .int .u64 ep, .slice A3 hz.length c3, .slice A4 td.length c4, .int .i64 q0, .int .i64 q1, .int .i64 q2, .int .i64 q3, .int .i64 q4, .int .i64 pk, .int .i64 sl, .int .u64 hd, .int .i64 tr, .slice A5 fr.length c5, .int .i64 ju] 51)) 82 #[.int .u64 h, .bool true]).alloc (.cells #[.slice none 0 0, .slice none 0 0, .int .i64 0, .int .i64 0, .int .i64 0, .int .i64 0, .int .i64 0, .int .i64 0, .int .u64 0, .slice none 0 0, .slice none 0 0, .int .i64 0, .int .i64 0, .int .i64 0, .int .i64 0, .int .i64 0, .int .i64 0, .int .i64 0, .int .u64 0, .int .i64 0, .slice none 0 0, .int .i64 0] 51)
  have bo := Blk.new ((w.alloc (.cells #[.slice A1 r.length c1, .slice A2 ks.length c2, .int .i64 s, .int .i64 t, .int .i64 f, .int .i64 l, .int .i64 p, .int .i64 k, .int .u64 ep, .slice A3 hz.length c3, .slice A4 td.length c4, .int .i64 q0, .int .i64 q1, .int .i64 q2, .int .i64 q3, .int .i64 q4, .int .i64 pk, .int .i64 sl, .int .u64 hd, .int .i64 tr, .slice A5 fr.length c5, .int .i64 ju] 51)).alloc (.cells #[.int .u64 h, .bool true] 82)) 51 #[.slice none 0 0, .slice none 0 0, .int .i64 0, .int .i64 0, .int .i64 0, .int .i64 0, .int .i64 0, .int .i64 0, .int .u64 0, .slice none 0 0, .slice none 0 0, .int .i64 0, .int .i64 0, .int .i64 0, .int .i64 0, .int .i64 0, .int .i64 0, .int .i64 0, .int .u64 0, .int .i64 0, .slice none 0 0, .int .i64 0]
  simp only [World.size_alloc] at bo bx
  replace t1 := ((t1.alloc (.cells #[.slice A1 r.length c1, .slice A2 ks.length c2, .int .i64 s, .int .i64 t, .int .i64 f, .int .i64 l, .int .i64 p, .int .i64 k, .int .u64 ep, .slice A3 hz.length c3, .slice A4 td.length c4, .int .i64 q0, .int .i64 q1, .int .i64 q2, .int .i64 q3, .int .i64 q4, .int .i64 pk, .int .i64 sl, .int .u64 hd, .int .i64 tr, .slice A5 fr.length c5, .int .i64 ju] 51)).alloc (.cells #[.int .u64 h, .bool true] 82)).alloc (.cells #[.slice none 0 0, .slice none 0 0, .int .i64 0, .int .i64 0, .int .i64 0, .int .i64 0, .int .i64 0, .int .i64 0, .int .u64 0, .slice none 0 0, .slice none 0 0, .int .i64 0, .int .i64 0, .int .i64 0, .int .i64 0, .int .i64 0, .int .i64 0, .int .i64 0, .int .u64 0, .int .i64 0, .slice none 0 0, .int .i64 0] 51)
  replace t2 := ((t2.alloc (.cells #[.slice A1 r.length c1, .slice A2 ks.length c2, .int .i64 s, .int .i64 t, .int .i64 f, .int .i64 l, .int .i64 p, .int .i64 k, .int .u64 ep, .slice A3 hz.length c3, .slice A4 td.length c4, .int .i64 q0, .int .i64 q1, .int .i64 q2, .int .i64 q3, .int .i64 q4, .int .i64 pk, .int .i64 sl, .int .u64 hd, .int .i64 tr, .slice A5 fr.length c5, .int .i64 ju] 51)).alloc (.cells #[.int .u64 h, .bool true] 82)).alloc (.cells #[.slice none 0 0, .slice none 0 0, .int .i64 0, .int .i64 0, .int .i64 0, .int .i64 0, .int .i64 0, .int .i64 0, .int .u64 0, .slice none 0 0, .slice none 0 0, .int .i64 0, .int .i64 0, .int .i64 0, .int .i64 0, .int .i64 0, .int .i64 0, .int .i64 0, .int .u64 0, .int .i64 0, .slice none 0 0, .int .i64 0] 51)
  replace t3 := ((t3.alloc (.cells #[.slice A1 r.length c1, .slice A2 ks.length c2, .int .i64 s, .int .i64 t, .int .i64 f, .int .i64 l, .int .i64 p, .int .i64 k, .int .u64 ep, .slice A3 hz.length c3, .slice A4 td.length c4, .int .i64 q0, .int .i64 q1, .int .i64 q2, .int .i64 q3, .int .i64 q4, .int .i64 pk, .int .i64 sl, .int .u64 hd, .int .i64 tr, .slice A5 fr.length c5, .int .i64 ju] 51)).alloc (.cells #[.int .u64 h, .bool true] 82)).alloc (.cells #[.slice none 0 0, .slice none 0 0, .int .i64 0, .int .i64 0, .int .i64 0, .int .i64 0, .int .i64 0, .int .i64 0, .int .u64 0, .slice none 0 0, .slice none 0 0, .int .i64 0, .int .i64 0, .int .i64 0, .int .i64 0, .int .i64 0, .int .i64 0, .int .i64 0, .int .u64 0, .int .i64 0, .slice none 0 0, .int .i64 0] 51)
  replace t4 := ((t4.alloc (.cells #[.slice A1 r.length c1, .slice A2 ks.length c2, .int .i64 s, .int .i64 t, .int .i64 f, .int .i64 l, .int .i64 p, .int .i64 k, .int .u64 ep, .slice A3 hz.length c3, .slice A4 td.length c4, .int .i64 q0, .int .i64 q1, .int .i64 q2, .int .i64 q3, .int .i64 q4, .int .i64 pk, .int .i64 sl, .int .u64 hd, .int .i64 tr, .slice A5 fr.length c5, .int .i64 ju] 51)).alloc (.cells #[.int .u64 h, .bool true] 82)).alloc (.cells #[.slice none 0 0, .slice none 0 0, .int .i64 0, .int .i64 0, .int .i64 0, .int .i64 0, .int .i64 0, .int .i64 0, .int .u64 0, .slice none 0 0, .slice none 0 0, .int .i64 0, .int .i64 0, .int .i64 0, .int .i64 0, .int .i64 0, .int .i64 0, .int .i64 0, .int .u64 0, .int .i64 0, .slice none 0 0, .int .i64 0] 51)
  replace t5 := ((t5.alloc (.cells #[.slice A1 r.length c1, .slice A2 ks.length c2, .int .i64 s, .int .i64 t, .int .i64 f, .int .i64 l, .int .i64 p, .int .i64 k, .int .u64 ep, .slice A3 hz.length c3, .slice A4 td.length c4, .int .i64 q0, .int .i64 q1, .int .i64 q2, .int .i64 q3, .int .i64 q4, .int .i64 pk, .int .i64 sl, .int .u64 hd, .int .i64 tr, .slice A5 fr.length c5, .int .i64 ju] 51)).alloc (.cells #[.int .u64 h, .bool true] 82)).alloc (.cells #[.slice none 0 0, .slice none 0 0, .int .i64 0, .int .i64 0, .int .i64 0, .int .i64 0, .int .i64 0, .int .i64 0, .int .u64 0, .slice none 0 0, .slice none 0 0, .int .i64 0, .int .i64 0, .int .i64 0, .int .i64 0, .int .i64 0, .int .i64 0, .int .i64 0, .int .u64 0, .int .i64 0, .slice none 0 0, .int .i64 0] 51)
  have H1 := hide h1
  have H2 := hide h2
  have H5 := hide h5
  clear h1 h2 h5
  go_enter Tryd.func50, Tryd.ntmps50
  go_wp2_with fail
  generalize ((w.alloc (.cells #[.slice A1 r.length c1, .slice A2 ks.length c2, .int .i64 s, .int .i64 t, .int .i64 f, .int .i64 l, .int .i64 p, .int .i64 k, .int .u64 ep, .slice A3 hz.length c3, .slice A4 td.length c4, .int .i64 q0, .int .i64 q1, .int .i64 q2, .int .i64 q3, .int .i64 q4, .int .i64 pk, .int .i64 sl, .int .u64 hd, .int .i64 tr, .slice A5 fr.length c5, .int .i64 ju] 51)).alloc (.cells #[.int .u64 h, .bool true] 82)).alloc (.cells #[.slice none 0 0, .slice none 0 0, .int .i64 0, .int .i64 0, .int .i64 0, .int .i64 0, .int .i64 0, .int .i64 0, .int .u64 0, .slice none 0 0, .slice none 0 0, .int .i64 0, .int .i64 0, .int .i64 0, .int .i64 0, .int .i64 0, .int .i64 0, .int .i64 0, .int .u64 0, .int .i64 0, .slice none 0 0, .int .i64 0] 51) = w0 at *
  have mx := fun i => bx.cell i
  have ms := fun i => bs.cell i
  go_wp2_with fail
  refine (withoutU_any _ ks 72 #[] #[.pointer (some ⟨w.heap.size + 1, 0, none⟩)] (fun x => x == h) w0 H2.out t2 (fun args w' => run_enter Tryd.func72 (by decide) (by simp [Tryd.f72]) args w') (fun x _ w' hb => gone1_any x h _ w' _ (bx.below hb bx.lt))).mono ?_
  rintro e w1 ⟨⟨u, rfl, o2⟩, hb⟩
  replace t1 := t1.below (Nat.le_refl _) hb
  replace t3 := t3.below (Nat.le_refl _) hb
  replace t4 := t4.below (Nat.le_refl _) hb
  replace t5 := t5.below (Nat.le_refl _) hb
  obtain ⟨A6, c6, rfl⟩ := o2.val
  replace bs := bs.below hb bs.lt
  replace bx := bx.below hb bx.lt
  replace bo := bo.below hb bo.lt
  replace B0 := B0.trans (hb.mono B0.size)
  clear hb mx ms
  have mx := fun i => bx.cell i
  have ms := fun i => bs.cell i
  have zs := fun i => bs.frozen i
  go_wp2_with fail
  replace o2 := o2.set_ bs (by decide) 1 (.slice A6 (ks.eraseP fun x => x == h).length c6)
  replace t1 := t1.set_ bs (by decide) 1 (.slice A6 (ks.eraseP fun x => x == h).length c6)
  replace t3 := t3.set_ bs (by decide) 1 (.slice A6 (ks.eraseP fun x => x == h).length c6)
  replace t4 := t4.set_ bs (by decide) 1 (.slice A6 (ks.eraseP fun x => x == h).length c6)
  replace t5 := t5.set_ bs (by decide) 1 (.slice A6 (ks.eraseP fun x => x == h).length c6)
  replace bx := bx.far (p := ⟨w.heap.size, 1, none⟩) (by show w.heap.size + 1 ≠ w.heap.size; omega) (.slice A6 (ks.eraseP fun x => x == h).length c6)
  replace bo := bo.far (p := ⟨w.heap.size, 1, none⟩) (by show w.heap.size + 1 + 1 ≠ w.heap.size; omega) (.slice A6 (ks.eraseP fun x => x == h).length c6)
  replace B0 := B0.setCell (p := ⟨w.heap.size, 1, none⟩) (Nat.le_refl _) (.slice A6 (ks.eraseP fun x => x == h).length c6)
  replace bs := bs.set_ 1 (.slice A6 (ks.eraseP fun x => x == h).length c6)
  simp only [List.setIfInBounds_toArray, List.set_cons_zero, List.set_cons_succ] at bs
  clear mx ms zs
  generalize w1.setCell ⟨w.heap.size, 1, none⟩ (.slice A6 (ks.eraseP fun x => x == h).length c6) = w2 at *
  clear t2
  have t2 := o2
  clear o2
  refine wp_region_heldZ [8] (fun w' => w'.cell? ⟨w.heap.size, 20, none⟩ = some (.slice A5 fr.length c5) ∧ w'.cell? ⟨w.heap.size + 1, 0, none⟩ = some (.int .u64 h)) (by kernel_rfl) (by exact ⟨bs.cell 20, bx.cell 0⟩) (fun hHeld => ?_)
  replace t1 := t1.drew
  replace t2 := t2.drew
  replace t3 := t3.drew
  replace t4 := t4.drew
  replace t5 := t5.drew
  replace bs := bs.drew
  replace bx := bx.drew
  replace bo := bo.drew
  replace B0 := B0.drew
  generalize w2.drew = wd at *
  refine' wpAnyZ_takeA (i := 0) (v := ?_) (opAt rfl) (by kernel_rfl) (by kernel_rfl) (by kernel_rfl) (by kernel_rfl) (fun _ _ _ h => h) (by assumption) (by rfl) (fun w hSw => ?_) ?_
  rotate_left
  · (try dsimp only at hSw); go_simp; (try with_reducible rfl)
  try simp only [Act.put, List.setIfInBounds_toArray, List.set_cons_zero, List.set_cons_succ]
  refine' wpAnyZ_takeA (i := 1) (v := ?_) (opAt rfl) (by kernel_rfl) (by kernel_rfl) (by kernel_rfl) (by kernel_rfl) (fun _ _ _ h => h) (by assumption) (by rfl) (fun w hSw => ?_) ?_
  rotate_left
  · (try dsimp only at hSw); go_simp; (try with_reducible rfl)
  try simp only [Act.put, List.setIfInBounds_toArray, List.set_cons_zero, List.set_cons_succ]
  refine' wpAnyZ_takeA (i := 3) (v := ?_) (opAt rfl) (by kernel_rfl) (by kernel_rfl) (by kernel_rfl) (by kernel_rfl) (fun _ _ _ h => h) (by assumption) (by rfl) (fun w hSw => ?_) ?_
  rotate_left
  · (try dsimp only at hSw); go_simp; (try with_reducible rfl)
  try simp only [Act.put, List.setIfInBounds_toArray, List.set_cons_zero, List.set_cons_succ]
  refine' wpAnyZ_takeA (i := 4) (v := ?_) (opAt rfl) (by kernel_rfl) (by kernel_rfl) (by kernel_rfl) (by kernel_rfl) (fun _ _ _ h => h) (by assumption) (by rfl) (fun w hSw => ?_) ?_
  rotate_left
  · (try dsimp only at hSw); go_simp; (try with_reducible rfl)
  try simp only [Act.put, List.setIfInBounds_toArray, List.set_cons_zero, List.set_cons_succ]
  refine wpAnyZ_ready (rs := [2, 5]) (by kernel_rfl) (by simp) ?_
  refine AllReadyZ.cons (opAt rfl) (fun K hK => ?_) ?_
  · skip
    go_simp
    refine (clipu_any A5 fr.length c5 _ t5.cap.1 t5.cap.2.1).mono ?_
    rintro e w' ⟨rfl, rfl⟩
    try go_wp2_with fail
    refine hK.out _ _ (by exact ⟨bs.cell 20, bx.cell 0⟩) (fun hHeld => ?_)
    clear hK K
    try simp only [Act.put, List.setIfInBounds_toArray, List.set_cons_zero, List.set_cons_succ]
    refine wpAnyZ_ready (rs := [5]) (by kernel_rfl) (by simp) ?_
    refine AllReadyZ.cons (opAt rfl) (fun K hK => ?_) ?_
    · skip
      go_simp
      have bl := Blk.new wd 29 #[.int .u64 h]
      replace t1 := t1.alloc (.cells #[.int .u64 h] 29)
      replace t2 := t2.alloc (.cells #[.int .u64 h] 29)
      replace t3 := t3.alloc (.cells #[.int .u64 h] 29)
      replace t4 := t4.alloc (.cells #[.int .u64 h] 29)
      replace t5 := t5.alloc (.cells #[.int .u64 h] 29)
      replace bs := bs.alloc (.cells #[.int .u64 h] 29)
      replace bx := bx.alloc (.cells #[.int .u64 h] 29)
      replace bo := bo.alloc (.cells #[.int .u64 h] 29)
      replace B0 := B0.alloc B0.size (.cells #[.int .u64 h] 29)
      generalize wd.heap.size = g5 at *
      generalize wd.alloc (.cells #[.int .u64 h] 29) = w3 at *
      refine hK.out _ _ (by exact ⟨bs.cell 20, bx.cell 0⟩) (fun hHeld => ?_)
      clear hK K
      try simp only [Act.put, List.setIfInBounds_toArray, List.set_cons_zero, List.set_cons_succ]
      refine wpAnyZ_ready (rs := [6]) (by kernel_rfl) (by simp) ?_
      refine AllReadyZ.cons (opAt rfl) (fun K hK => ?_) ?_
      · skip
        refine step_append_grows (by rfl) (.tmp 23) (.tmp 26) _ (by rfl) 29 i0 _ 1 8 Tryd.underlying23 hi0 hz0 hs0 hb0 rfl (by decide) A5 fr.length fr.length (ints .u64 fr) (by rfl) (fun h => ⟨(t5.cap.2.2 h).1, (t5.cap.2.2 h).1⟩) (by rw [ints_len, Nat.mul_one]) t5.holds ⟨g5, 0, none⟩ 1 1 [.int .u64 h] (by rfl) rfl (fun j u hj => by rw [Addr.add_lit]; have := bl.cell j; simpa [this] using hj) (fun u hu => by simp only [List.mem_cons, List.not_mem_nil, or_false] at hu; subst hu; rfl) (by omega) (by unfold maxLen; have := H5.out; omega) (by have := H5.out; omega) ?_
        intro v5 w4 o5 hg
        replace t1 := t1.grown_none hg
        replace t2 := t2.grown_none hg
        replace t3 := t3.grown_none hg
        replace t4 := t4.grown_none hg
        replace bs := bs.grown hg (by simp)
        replace bx := bx.grown hg (by simp)
        replace bo := bo.grown hg (by simp)
        replace B0 := B0.grown hg B0.size (fun _ h => by cases h)
        clear t5
        obtain ⟨m5, HM5⟩ : ∃ m, Hid (m = (fr ++ [h]).length) := ⟨_, hide rfl⟩
        have t5 : Tr w4 29 1 v5 m5 (ints .u64 (fr ++ [h])) := by rw [HM5.out, ints_append, List.length_append]; exact Tr.of_own o5
        obtain ⟨A7, c7, rfl⟩ := t5.val
        clear o5 hg bl
        refine hK.out _ _ (by exact ⟨bs.cell 20, bx.cell 0⟩) (fun hHeld => ?_)
        clear hK K
        try simp only [Act.put, List.setIfInBounds_toArray, List.set_cons_zero, List.set_cons_succ]
        refine' wpAnyZ_takeA (i := 7) (v := ?_) (opAt rfl) (by kernel_rfl) (by kernel_rfl) (by kernel_rfl) (by kernel_rfl) (fun _ _ _ h => h) (by assumption) (by rfl) (fun w hSw => ?_) ?_
        rotate_left
        · (try dsimp only at hSw); go_simp; (try with_reducible rfl)
        try simp only [Act.put, List.setIfInBounds_toArray, List.set_cons_zero, List.set_cons_succ]
        refine wpAnyZ_ready (rs := [8]) (by kernel_rfl) (by simp) ?_
        refine AllReadyZ.last (opAt rfl) (by kernel_rfl) (fun K hK => ?_) ?_
        · skip
          have zs := fun i => bs.frozen i
          have ms := fun i => bs.cell i
          go_simp
          refine hK.out _ _ ?_
          clear hK K
          try simp only [Act.put, List.setIfInBounds_toArray, List.set_cons_zero, List.set_cons_succ]
          refine wpAnyZ_done (by kernel_rfl) ?_ _
          replace t1 := t1.set_ bs (by decide) 20 (.slice A7 m5 c7)
          replace t2 := t2.set_ bs (by decide) 20 (.slice A7 m5 c7)
          replace t3 := t3.set_ bs (by decide) 20 (.slice A7 m5 c7)
          replace t4 := t4.set_ bs (by decide) 20 (.slice A7 m5 c7)
          replace t5 := t5.set_ bs (by decide) 20 (.slice A7 m5 c7)
          replace bo := bo.far (p := ⟨w.heap.size, 20, none⟩) (by show w.heap.size + 1 + 1 ≠ w.heap.size; omega) (.slice A7 m5 c7)
          replace B0 := B0.setCell (p := ⟨w.heap.size, 20, none⟩) (Nat.le_refl _) (.slice A7 m5 c7)
          replace bs := bs.set_ 20 (.slice A7 m5 c7)
          simp only [List.setIfInBounds_toArray, List.set_cons_zero, List.set_cons_succ] at bs
          clear bx zs ms hHeld
          generalize w4.setCell ⟨w.heap.size, 20, none⟩ (.slice A7 m5 c7) = w5 at *
          go_wp2_with (first | (refine wpList_load_mid rfl 51 (.tmp 2) rfl w.heap.size 0 (by rfl) [.slice A1 r.length c1, .slice A6 (ks.eraseP fun x => x == h).length c6, .int .i64 s, .int .i64 t, .int .i64 f, .int .i64 l, .int .i64 p, .int .i64 k, .int .u64 ep, .slice A3 hz.length c3, .slice A4 td.length c4, .int .i64 q0, .int .i64 q1, .int .i64 q2, .int .i64 q3, .int .i64 q4, .int .i64 pk, .int .i64 sl, .int .u64 hd, .int .i64 tr, .slice A7 m5 c7, .int .i64 ju] _ bs.range Tryd.underlying51 rfl (by kernel_rfl) ?_) | (refine wpList_store_mid rfl 51 (.tmp 4) (.tmp 29) rfl (w.heap.size + 1 + 1) 0 #[.slice A1 r.length c1, .slice A6 (ks.eraseP fun x => x == h).length c6, .int .i64 s, .int .i64 t, .int .i64 f, .int .i64 l, .int .i64 p, .int .i64 k, .int .u64 ep, .slice A3 hz.length c3, .slice A4 td.length c4, .int .i64 q0, .int .i64 q1, .int .i64 q2, .int .i64 q3, .int .i64 q4, .int .i64 pk, .int .i64 sl, .int .u64 hd, .int .i64 tr, .slice A7 m5 c7, .int .i64 ju] (by rfl) (by rfl) (bo.there rfl) (by kernel_rfl) (by kernel_rfl) ?_))
          replace t1 := (show Tr (w5.setCells (w.heap.size + 1 + 1) 0 [.slice A1 r.length c1, .slice A6 (ks.eraseP fun x => x == h).length c6, .int .i64 s, .int .i64 t, .int .i64 f, .int .i64 l, .int .i64 p, .int .i64 k, .int .u64 ep, .slice A3 hz.length c3, .slice A4 td.length c4, .int .i64 q0, .int .i64 q1, .int .i64 q2, .int .i64 q3, .int .i64 q4, .int .i64 pk, .int .i64 sl, .int .u64 hd, .int .i64 tr, .slice A7 m5 c7, .int .i64 ju]) _ _ _ _ _ from by rw [putL_eq]; exact Tr.putL (by decide) _ 0 bo t1)
          replace t2 := (show Tr (w5.setCells (w.heap.size + 1 + 1) 0 [.slice A1 r.length c1, .slice A6 (ks.eraseP fun x => x == h).length c6, .int .i64 s, .int .i64 t, .int .i64 f, .int .i64 l, .int .i64 p, .int .i64 k, .int .u64 ep, .slice A3 hz.length c3, .slice A4 td.length c4, .int .i64 q0, .int .i64 q1, .int .i64 q2, .int .i64 q3, .int .i64 q4, .int .i64 pk, .int .i64 sl, .int .u64 hd, .int .i64 tr, .slice A7 m5 c7, .int .i64 ju]) _ _ _ _ _ from by rw [putL_eq]; exact Tr.putL (by decide) _ 0 bo t2)
          replace t3 := (show Tr (w5.setCells (w.heap.size + 1 + 1) 0 [.slice A1 r.length c1, .slice A6 (ks.eraseP fun x => x == h).length c6, .int .i64 s, .int .i64 t, .int .i64 f, .int .i64 l, .int .i64 p, .int .i64 k, .int .u64 ep, .slice A3 hz.length c3, .slice A4 td.length c4, .int .i64 q0, .int .i64 q1, .int .i64 q2, .int .i64 q3, .int .i64 q4, .int .i64 pk, .int .i64 sl, .int .u64 hd, .int .i64 tr, .slice A7 m5 c7, .int .i64 ju]) _ _ _ _ _ from by rw [putL_eq]; exact Tr.putL (by decide) _ 0 bo t3)
          replace t4 := (show Tr (w5.setCells (w.heap.size + 1 + 1) 0 [.slice A1 r.length c1, .slice A6 (ks.eraseP fun x => x == h).length c6, .int .i64 s, .int .i64 t, .int .i64 f, .int .i64 l, .int .i64 p, .int .i64 k, .int .u64 ep, .slice A3 hz.length c3, .slice A4 td.length c4, .int .i64 q0, .int .i64 q1, .int .i64 q2, .int .i64 q3, .int .i64 q4, .int .i64 pk, .int .i64 sl, .int .u64 hd, .int .i64 tr, .slice A7 m5 c7, .int .i64 ju]) _ _ _ _ _ from by rw [putL_eq]; exact Tr.putL (by decide) _ 0 bo t4)
          replace t5 := (show Tr (w5.setCells (w.heap.size + 1 + 1) 0 [.slice A1 r.length c1, .slice A6 (ks.eraseP fun x => x == h).length c6, .int .i64 s, .int .i64 t, .int .i64 f, .int .i64 l, .int .i64 p, .int .i64 k, .int .u64 ep, .slice A3 hz.length c3, .slice A4 td.length c4, .int .i64 q0, .int .i64 q1, .int .i64 q2, .int .i64 q3, .int .i64 q4, .int .i64 pk, .int .i64 sl, .int .u64 hd, .int .i64 tr, .slice A7 m5 c7, .int .i64 ju]) _ _ _ _ _ from by rw [putL_eq]; exact Tr.putL (by decide) _ 0 bo t5)
          replace B0 := (show Below w.heap.size w (w5.setCells (w.heap.size + 1 + 1) 0 [.slice A1 r.length c1, .slice A6 (ks.eraseP fun x => x == h).length c6, .int .i64 s, .int .i64 t, .int .i64 f, .int .i64 l, .int .i64 p, .int .i64 k, .int .u64 ep, .slice A3 hz.length c3, .slice A4 td.length c4, .int .i64 q0, .int .i64 q1, .int .i64 q2, .int .i64 q3, .int .i64 q4, .int .i64 pk, .int .i64 sl, .int .u64 hd, .int .i64 tr, .slice A7 m5 c7, .int .i64 ju]) from by rw [putL_eq]; exact Below.putL (by omega) _ _ 0 B0)
          replace bo := (show Blk (w5.setCells (w.heap.size + 1 + 1) 0 [.slice A1 r.length c1, .slice A6 (ks.eraseP fun x => x == h).length c6, .int .i64 s, .int .i64 t, .int .i64 f, .int .i64 l, .int .i64 p, .int .i64 k, .int .u64 ep, .slice A3 hz.length c3, .slice A4 td.length c4, .int .i64 q0, .int .i64 q1, .int .i64 q2, .int .i64 q3, .int .i64 q4, .int .i64 pk, .int .i64 sl, .int .u64 hd, .int .i64 tr, .slice A7 m5 c7, .int .i64 ju]) (w.heap.size + 1 + 1) 51 #[.slice A1 r.length c1, .slice A6 (ks.eraseP fun x => x == h).length c6, .int .i64 s, .int .i64 t, .int .i64 f, .int .i64 l, .int .i64 p, .int .i64 k, .int .u64 ep, .slice A3 hz.length c3, .slice A4 td.length c4, .int .i64 q0, .int .i64 q1, .int .i64 q2, .int .i64 q3, .int .i64 q4, .int .i64 pk, .int .i64 sl, .int .u64 hd, .int .i64 tr, .slice A7 m5 c7, .int .i64 ju] from by rw [putL_eq]; have h9 := Blk.putL [.slice A1 r.length c1, .slice A6 (ks.eraseP fun x => x == h).length c6, .int .i64 s, .int .i64 t, .int .i64 f, .int .i64 l, .int .i64 p, .int .i64 k, .int .u64 ep, .slice A3 hz.length c3, .slice A4 td.length c4, .int .i64 q0, .int .i64 q1, .int .i64 q2, .int .i64 q3, .int .i64 q4, .int .i64 pk, .int .i64 sl, .int .u64 hd, .int .i64 tr, .slice A7 m5 c7, .int .i64 ju] _ _ 0 bo; simpa only [setL, List.setIfInBounds_toArray, List.set_cons_zero, List.set_cons_succ] using h9)
          clear bs
          generalize w5.setCells (w.heap.size + 1 + 1) 0 [.slice A1 r.length c1, .slice A6 (ks.eraseP fun x => x == h).length c6, .int .i64 s, .int .i64 t, .int .i64 f, .int .i64 l, .int .i64 p, .int .i64 k, .int .u64 ep, .slice A3 hz.length c3, .slice A4 td.length c4, .int .i64 q0, .int .i64 q1, .int .i64 q2, .int .i64 q3, .int .i64 q4, .int .i64 pk, .int .i64 sl, .int .u64 hd, .int .i64 tr, .slice A7 m5 c7, .int .i64 ju] = w12 at *
          have hres : (loadVar 51 ⟨w.heap.size + 1 + 1, 0, none⟩).run Tryd.prog w12 = .ok (.agg #[.slice A1 r.length c1, .slice A6 (ks.eraseP fun x => x == h).length c6, .int .i64 s, .int .i64 t, .int .i64 f, .int .i64 l, .int .i64 p, .int .i64 k, .int .u64 ep, .slice A3 hz.length c3, .slice A4 td.length c4, .int .i64 q0, .int .i64 q1, .int .i64 q2, .int .i64 q3, .int .i64 q4, .int .i64 pk, .int .i64 sl, .int .u64 hd, .int .i64 tr, .slice A7 m5 c7, .int .i64 ju]) w12 := run_loadVar_mid w12 _ 0 _ [.slice A1 r.length c1, .slice A6 (ks.eraseP fun x => x == h).length c6, .int .i64 s, .int .i64 t, .int .i64 f, .int .i64 l, .int .i64 p, .int .i64 k, .int .u64 ep, .slice A3 hz.length c3, .slice A4 td.length c4, .int .i64 q0, .int .i64 q1, .int .i64 q2, .int .i64 q3, .int .i64 q4, .int .i64 pk, .int .i64 sl, .int .u64 hd, .int .i64 tr, .slice A7 m5 c7, .int .i64 ju] _ bo.range Tryd.underlying51 rfl (by kernel_rfl)
          refine bodyPost_ret (v := .agg #[.slice A1 r.length c1, .slice A6 (ks.eraseP fun x => x == h).length c6, .int .i64 s, .int .i64 t, .int .i64 f, .int .i64 l, .int .i64 p, .int .i64 k, .int .u64 ep, .slice A3 hz.length c3, .slice A4 td.length c4, .int .i64 q0, .int .i64 q1, .int .i64 q2, .int .i64 q3, .int .i64 q4, .int .i64 pk, .int .i64 sl, .int .u64 hd, .int .i64 tr, .slice A7 m5 c7, .int .i64 ju]) (by simp [results, Tryd.results50, Act.put, asAddr, hres]) rfl (by have hm := HM5.out; subst hm; exact ⟨⟨_, rfl, _, _, _, _, _, _, _, _, _, _, rfl, t1, t2, t3, t4, t5⟩, B0⟩)
        exact AllReadyZ.nil
      exact AllReadyZ.nil
    exact AllReadyZ.nil
  refine AllReadyZ.cons (opAt rfl) (fun K hK => ?_) ?_
  · skip
    go_simp
    have bl := Blk.new wd 29 #[.int .u64 h]
    replace t1 := t1.alloc (.cells #[.int .u64 h] 29)
    replace t2 := t2.alloc (.cells #[.int .u64 h] 29)
    replace t3 := t3.alloc (.cells #[.int .u64 h] 29)
    replace t4 := t4.alloc (.cells #[.int .u64 h] 29)
    replace t5 := t5.alloc (.cells #[.int .u64 h] 29)
    replace bs := bs.alloc (.cells #[.int .u64 h] 29)
    replace bx := bx.alloc (.cells #[.int .u64 h] 29)
    replace bo := bo.alloc (.cells #[.int .u64 h] 29)
    replace B0 := B0.alloc B0.size (.cells #[.int .u64 h] 29)
    generalize wd.heap.size = g5 at *
    generalize wd.alloc (.cells #[.int .u64 h] 29) = w3 at *
    refine hK.out _ _ (by exact ⟨bs.cell 20, bx.cell 0⟩) (fun hHeld => ?_)
    clear hK K
    try simp only [Act.put, List.setIfInBounds_toArray, List.set_cons_zero, List.set_cons_succ]
    refine wpAnyZ_ready (rs := [2]) (by kernel_rfl) (by simp) ?_
    refine AllReadyZ.cons (opAt rfl) (fun K hK => ?_) ?_
    · skip
      go_simp
      refine (clipu_any A5 fr.length c5 _ t5.cap.1 t5.cap.2.1).mono ?_
      rintro e w' ⟨rfl, rfl⟩
      try go_wp2_with fail
      refine hK.out _ _ (by exact ⟨bs.cell 20, bx.cell 0⟩) (fun hHeld => ?_)
      clear hK K
      try simp only [Act.put, List.setIfInBounds_toArray, List.set_cons_zero, List.set_cons_succ]
      refine wpAnyZ_ready (rs := [6]) (by kernel_rfl) (by simp) ?_
      refine AllReadyZ.cons (opAt rfl) (fun K hK => ?_) ?_
      · skip
        refine step_append_grows (by rfl) (.tmp 23) (.tmp 26) _ (by rfl) 29 i0 _ 1 8 Tryd.underlying23 hi0 hz0 hs0 hb0 rfl (by decide) A5 fr.length fr.length (ints .u64 fr) (by rfl) (fun h => ⟨(t5.cap.2.2 h).1, (t5.cap.2.2 h).1⟩) (by rw [ints_len, Nat.mul_one]) t5.holds ⟨g5, 0, none⟩ 1 1 [.int .u64 h] (by rfl) rfl (fun j u hj => by rw [Addr.add_lit]; have := bl.cell j; simpa [this] using hj) (fun u hu => by simp only [List.mem_cons, List.not_mem_nil, or_false] at hu; subst hu; rfl) (by omega) (by unfold maxLen; have := H5.out; omega) (by have := H5.out; omega) ?_
        intro v5 w4 o5 hg
        replace t1 := t1.grown_none hg
        replace t2 := t2.grown_none hg
        replace t3 := t3.grown_none hg
        replace t4 := t4.grown_none hg
        replace bs := bs.grown hg (by simp)
        replace bx := bx.grown hg (by simp)
        replace bo := bo.grown hg (by simp)
        replace B0 := B0.grown hg B0.size (fun _ h => by cases h)
        clear t5
        obtain ⟨m5, HM5⟩ : ∃ m, Hid (m = (fr ++ [h]).length) := ⟨_, hide rfl⟩
        have t5 : Tr w4 29 1 v5 m5 (ints .u64 (fr ++ [h])) := by rw [HM5.out, ints_append, List.length_append]; exact Tr.of_own o5
        obtain ⟨A7, c7, rfl⟩ := t5.val
        clear o5 hg bl
        refine hK.out _ _ (by exact ⟨bs.cell 20, bx.cell 0⟩) (fun hHeld => ?_)
        clear hK K
        try simp only [Act.put, List.setIfInBounds_toArray, List.set_cons_zero, List.set_cons_succ]
        refine' wpAnyZ_takeA (i := 7) (v := ?_) (opAt rfl) (by kernel_rfl) (by kernel_rfl) (by kernel_rfl) (by kernel_rfl) (fun _ _ _ h => h) (by assumption) (by rfl) (fun w hSw => ?_) ?_
        rotate_left
        · (try dsimp only at hSw); go_simp; (try with_reducible rfl)
        try simp only [Act.put, List.setIfInBounds_toArray, List.set_cons_zero, List.set_cons_succ]
        refine wpAnyZ_ready (rs := [8]) (by kernel_rfl) (by simp) ?_
        refine AllReadyZ.last (opAt rfl) (by kernel_rfl) (fun K hK => ?_) ?_
        · skip
          have zs := fun i => bs.frozen i
          have ms := fun i => bs.cell i
          go_simp
          refine hK.out _ _ ?_
          clear hK K
          try simp only [Act.put, List.setIfInBounds_toArray, List.set_cons_zero, List.set_cons_succ]
          refine wpAnyZ_done (by kernel_rfl) ?_ _
          replace t1 := t1.set_ bs (by decide) 20 (.slice A7 m5 c7)
          replace t2 := t2.set_ bs (by decide) 20 (.slice A7 m5 c7)
          replace t3 := t3.set_ bs (by decide) 20 (.slice A7 m5 c7)
          replace t4 := t4.set_ bs (by decide) 20 (.slice A7 m5 c7)
          replace t5 := t5.set_ bs (by decide) 20 (.slice A7 m5 c7)
          replace bo := bo.far (p := ⟨w.heap.size, 20, none⟩) (by show w.heap.size + 1 + 1 ≠ w.heap.size; omega) (.slice A7 m5 c7)
          replace B0 := B0.setCell (p := ⟨w.heap.size, 20, none⟩) (Nat.le_refl _) (.slice A7 m5 c7)
          replace bs := bs.set_ 20 (.slice A7 m5 c7)
          simp only [List.setIfInBounds_toArray, List.set_cons_zero, List.set_cons_succ] at bs
          clear bx zs ms hHeld
          generalize w4.setCell ⟨w.heap.size, 20, none⟩ (.slice A7 m5 c7) = w5 at *
          go_wp2_with (first | (refine wpList_load_mid rfl 51 (.tmp 2) rfl w.heap.size 0 (by rfl) [.slice A1 r.length c1, .slice A6 (ks.eraseP fun x => x == h).length c6, .int .i64 s, .int .i64 t, .int .i64 f, .int .i64 l, .int .i64 p, .int .i64 k, .int .u64 ep, .slice A3 hz.length c3, .slice A4 td.length c4, .int .i64 q0, .int .i64 q1, .int .i64 q2, .int .i64 q3, .int .i64 q4, .int .i64 pk, .int .i64 sl, .int .u64 hd, .int .i64 tr, .slice A7 m5 c7, .int .i64 ju] _ bs.range Tryd.underlying51 rfl (by kernel_rfl) ?_) | (refine wpList_store_mid rfl 51 (.tmp 4) (.tmp 29) rfl (w.heap.size + 1 + 1) 0 #[.slice A1 r.length c1, .slice A6 (ks.eraseP fun x => x == h).length c6, .int .i64 s, .int .i64 t, .int .i64 f, .int .i64 l, .int .i64 p, .int .i64 k, .int .u64 ep, .slice A3 hz.length c3, .slice A4 td.length c4, .int .i64 q0, .int .i64 q1, .int .i64 q2, .int .i64 q3, .int .i64 q4, .int .i64 pk, .int .i64 sl, .int .u64 hd, .int .i64 tr, .slice A7 m5 c7, .int .i64 ju] (by rfl) (by rfl) (bo.there rfl) (by kernel_rfl) (by kernel_rfl) ?_))
          replace t1 := (show Tr (w5.setCells (w.heap.size + 1 + 1) 0 [.slice A1 r.length c1, .slice A6 (ks.eraseP fun x => x == h).length c6, .int .i64 s, .int .i64 t, .int .i64 f, .int .i64 l, .int .i64 p, .int .i64 k, .int .u64 ep, .slice A3 hz.length c3, .slice A4 td.length c4, .int .i64 q0, .int .i64 q1, .int .i64 q2, .int .i64 q3, .int .i64 q4, .int .i64 pk, .int .i64 sl, .int .u64 hd, .int .i64 tr, .slice A7 m5 c7, .int .i64 ju]) _ _ _ _ _ from by rw [putL_eq]; exact Tr.putL (by decide) _ 0 bo t1)
          replace t2 := (show Tr (w5.setCells (w.heap.size + 1 + 1) 0 [.slice A1 r.length c1, .slice A6 (ks.eraseP fun x => x == h).length c6, .int .i64 s, .int .i64 t, .int .i64 f, .int .i64 l, .int .i64 p, .int .i64 k, .int .u64 ep, .slice A3 hz.length c3, .slice A4 td.length c4, .int .i64 q0, .int .i64 q1, .int .i64 q2, .int .i64 q3, .int .i64 q4, .int .i64 pk, .int .i64 sl, .int .u64 hd, .int .i64 tr, .slice A7 m5 c7, .int .i64 ju]) _ _ _ _ _ from by rw [putL_eq]; exact Tr.putL (by decide) _ 0 bo t2)
          replace t3 := (show Tr (w5.setCells (w.heap.size + 1 + 1) 0 [.slice A1 r.length c1, .slice A6 (ks.eraseP fun x => x == h).length c6, .int .i64 s, .int .i64 t, .int .i64 f, .int .i64 l, .int .i64 p, .int .i64 k, .int .u64 ep, .slice A3 hz.length c3, .slice A4 td.length c4, .int .i64 q0, .int .i64 q1, .int .i64 q2, .int .i64 q3, .int .i64 q4, .int .i64 pk, .int .i64 sl, .int .u64 hd, .int .i64 tr, .slice A7 m5 c7, .int .i64 ju]) _ _ _ _ _ from by rw [putL_eq]; exact Tr.putL (by decide) _ 0 bo t3)
          replace t4 := (show Tr (w5.setCells (w.heap.size + 1 + 1) 0 [.slice A1 r.length c1, .slice A6 (ks.eraseP fun x => x == h).length c6, .int .i64 s, .int .i64 t, .int .i64 f, .int .i64 l, .int .i64 p, .int .i64 k, .int .u64 ep, .slice A3 hz.length c3, .slice A4 td.length c4, .int .i64 q0, .int .i64 q1, .int .i64 q2, .int .i64 q3, .int .i64 q4, .int .i64 pk, .int .i64 sl, .int .u64 hd, .int .i64 tr, .slice A7 m5 c7, .int .i64 ju]) _ _ _ _ _ from by rw [putL_eq]; exact Tr.putL (by decide) _ 0 bo t4)
          replace t5 := (show Tr (w5.setCells (w.heap.size + 1 + 1) 0 [.slice A1 r.length c1, .slice A6 (ks.eraseP fun x => x == h).length c6, .int .i64 s, .int .i64 t, .int .i64 f, .int .i64 l, .int .i64 p, .int .i64 k, .int .u64 ep, .slice A3 hz.length c3, .slice A4 td.length c4, .int .i64 q0, .int .i64 q1, .int .i64 q2, .int .i64 q3, .int .i64 q4, .int .i64 pk, .int .i64 sl, .int .u64 hd, .int .i64 tr, .slice A7 m5 c7, .int .i64 ju]) _ _ _ _ _ from by rw [putL_eq]; exact Tr.putL (by decide) _ 0 bo t5)
          replace B0 := (show Below w.heap.size w (w5.setCells (w.heap.size + 1 + 1) 0 [.slice A1 r.length c1, .slice A6 (ks.eraseP fun x => x == h).length c6, .int .i64 s, .int .i64 t, .int .i64 f, .int .i64 l, .int .i64 p, .int .i64 k, .int .u64 ep, .slice A3 hz.length c3, .slice A4 td.length c4, .int .i64 q0, .int .i64 q1, .int .i64 q2, .int .i64 q3, .int .i64 q4, .int .i64 pk, .int .i64 sl, .int .u64 hd, .int .i64 tr, .slice A7 m5 c7, .int .i64 ju]) from by rw [putL_eq]; exact Below.putL (by omega) _ _ 0 B0)
          replace bo := (show Blk (w5.setCells (w.heap.size + 1 + 1) 0 [.slice A1 r.length c1, .slice A6 (ks.eraseP fun x => x == h).length c6, .int .i64 s, .int .i64 t, .int .i64 f, .int .i64 l, .int .i64 p, .int .i64 k, .int .u64 ep, .slice A3 hz.length c3, .slice A4 td.length c4, .int .i64 q0, .int .i64 q1, .int .i64 q2, .int .i64 q3, .int .i64 q4, .int .i64 pk, .int .i64 sl, .int .u64 hd, .int .i64 tr, .slice A7 m5 c7, .int .i64 ju]) (w.heap.size + 1 + 1) 51 #[.slice A1 r.length c1, .slice A6 (ks.eraseP fun x => x == h).length c6, .int .i64 s, .int .i64 t, .int .i64 f, .int .i64 l, .int .i64 p, .int .i64 k, .int .u64 ep, .slice A3 hz.length c3, .slice A4 td.length c4, .int .i64 q0, .int .i64 q1, .int .i64 q2, .int .i64 q3, .int .i64 q4, .int .i64 pk, .int .i64 sl, .int .u64 hd, .int .i64 tr, .slice A7 m5 c7, .int .i64 ju] from by rw [putL_eq]; have h9 := Blk.putL [.slice A1 r.length c1, .slice A6 (ks.eraseP fun x => x == h).length c6, .int .i64 s, .int .i64 t, .int .i64 f, .int .i64 l, .int .i64 p, .int .i64 k, .int .u64 ep, .slice A3 hz.length c3, .slice A4 td.length c4, .int .i64 q0, .int .i64 q1, .int .i64 q2, .int .i64 q3, .int .i64 q4, .int .i64 pk, .int .i64 sl, .int .u64 hd, .int .i64 tr, .slice A7 m5 c7, .int .i64 ju] _ _ 0 bo; simpa only [setL, List.setIfInBounds_toArray, List.set_cons_zero, List.set_cons_succ] using h9)
          clear bs
          generalize w5.setCells (w.heap.size + 1 + 1) 0 [.slice A1 r.length c1, .slice A6 (ks.eraseP fun x => x == h).length c6, .int .i64 s, .int .i64 t, .int .i64 f, .int .i64 l, .int .i64 p, .int .i64 k, .int .u64 ep, .slice A3 hz.length c3, .slice A4 td.length c4, .int .i64 q0, .int .i64 q1, .int .i64 q2, .int .i64 q3, .int .i64 q4, .int .i64 pk, .int .i64 sl, .int .u64 hd, .int .i64 tr, .slice A7 m5 c7, .int .i64 ju] = w12 at *
          have hres : (loadVar 51 ⟨w.heap.size + 1 + 1, 0, none⟩).run Tryd.prog w12 = .ok (.agg #[.slice A1 r.length c1, .slice A6 (ks.eraseP fun x => x == h).length c6, .int .i64 s, .int .i64 t, .int .i64 f, .int .i64 l, .int .i64 p, .int .i64 k, .int .u64 ep, .slice A3 hz.length c3, .slice A4 td.length c4, .int .i64 q0, .int .i64 q1, .int .i64 q2, .int .i64 q3, .int .i64 q4, .int .i64 pk, .int .i64 sl, .int .u64 hd, .int .i64 tr, .slice A7 m5 c7, .int .i64 ju]) w12 := run_loadVar_mid w12 _ 0 _ [.slice A1 r.length c1, .slice A6 (ks.eraseP fun x => x == h).length c6, .int .i64 s, .int .i64 t, .int .i64 f, .int .i64 l, .int .i64 p, .int .i64 k, .int .u64 ep, .slice A3 hz.length c3, .slice A4 td.length c4, .int .i64 q0, .int .i64 q1, .int .i64 q2, .int .i64 q3, .int .i64 q4, .int .i64 pk, .int .i64 sl, .int .u64 hd, .int .i64 tr, .slice A7 m5 c7, .int .i64 ju] _ bo.range Tryd.underlying51 rfl (by kernel_rfl)
          refine bodyPost_ret (v := .agg #[.slice A1 r.length c1, .slice A6 (ks.eraseP fun x => x == h).length c6, .int .i64 s, .int .i64 t, .int .i64 f, .int .i64 l, .int .i64 p, .int .i64 k, .int .u64 ep, .slice A3 hz.length c3, .slice A4 td.length c4, .int .i64 q0, .int .i64 q1, .int .i64 q2, .int .i64 q3, .int .i64 q4, .int .i64 pk, .int .i64 sl, .int .u64 hd, .int .i64 tr, .slice A7 m5 c7, .int .i64 ju]) (by simp [results, Tryd.results50, Act.put, asAddr, hres]) rfl (by have hm := HM5.out; subst hm; exact ⟨⟨_, rfl, _, _, _, _, _, _, _, _, _, _, rfl, t1, t2, t3, t4, t5⟩, B0⟩)
        exact AllReadyZ.nil
      exact AllReadyZ.nil
    exact AllReadyZ.nil
  exact AllReadyZ.nil
set_option linter.unusedSimpArgs false in
set_option maxRecDepth 100000 in
set_option maxHeartbeats 4000000 in
theorem sgone_l (s t f l p k ep : Int) (r : List (Int × Int)) (ks hz : List Int) (td : List (Int × Bool)) (q0 q1 q2 q3 q4 pk sl hd tr : Int) (fr : List Int) (ju : Int) (h : Int) (v : Value) (w : World) (hv : SwV w s t f l p k ep r ks hz td q0 q1 q2 q3 q4 pk sl hd tr fr ju v) (h1 : r.length ≤ 1000) (h2 : ks.length ≤ 1000) (h5 : fr.length ≤ 1000) (hw : ∀ x ∈ r, W64 x.2) (hp : W64 ep) :
    Calls Tryd.prog 50 #[v, .agg #[.int .u64 h, .bool false]] w fun e w' => (∃ v', e = .returned v' ∧ SwV w' s t f l p k ep (r.eraseP fun x => x.1 == h && ripeB x.2 ep) ks hz td q0 q1 q2 q3 q4 pk sl hd tr (fr ++ [h]) ju v') ∧ Below w.heap.size w w' := by
  obtain ⟨A1, c1, A2, c2, A3, c3, A4, c4, A5, c5, rfl, t1, t2, t3, t4, t5⟩ := hv
  obtain ⟨i0, hi0, hz0, hs0, hb0⟩ := info_parts infoU64
  have B0 := (((Below.refl w.heap.size w).alloc (Nat.le_refl _) (.cells #[.slice A1 r.length c1, .slice A2 ks.length c2, .int .i64 s, .int .i64 t, .int .i64 f, .int .i64 l, .int .i64 p, .int .i64 k, .int .u64 ep, .slice A3 hz.length c3, .slice A4 td.length c4, .int .i64 q0, .int .i64 q1, .int .i64 q2, .int .i64 q3, .int .i64 q4, .int .i64 pk, .int .i64 sl, .int .u64 hd, .int .i64 tr, .slice A5 fr.length c5, .int .i64 ju] 51)).alloc (by simp only [World.size_alloc]; omega) (.cells #[.int .u64 h, .bool false] 82)).alloc (by simp only [World.size_alloc]; omega) (.cells #[.slice none 0 0, .slice none 0 0, .int .i64 0, .int .i64 0, .int .i64 0, .int .i64 0, .int .i64 0, .int .i64 0, .int .u64 0, .slice none 0 0, .slice none 0 0, .int .i64 0, .int .i64 0, .int .i64 0, .int .i64 0, .int .i64 0, .int .i64 0, .int .i64 0, .int .u64 0, .int .i64 0, .slice none 0 0, .int .i64 0] 51)
  have bs := ((Blk.new w 51 #[.slice A1 r.length c1, .slice A2 ks.length c2, .int .i64 s, .int .i64 t, .int .i64 f, .int .i64 l, .int .i64 p, .int .i64 k, .int .u64 ep, .slice A3 hz.length c3, .slice A4 td.length c4, .int .i64 q0, .int .i64 q1, .int .i64 q2, .int .i64 q3, .int .i64 q4, .int .i64 pk, .int .i64 sl, .int .u64 hd, .int .i64 tr, .slice A5 fr.length c5, .int .i64 ju]).alloc (.cells #[.int .u64 h, .bool false] 82)).alloc (.cells #[.slice none 0 0, .slice none 0 0, .int .i64 0, .int .i64 0, .int .i64 0, .int .i64 0, .int .i64 0, .int .i64 0, .int .u64 0, .slice none 0 0, .slice none 0 0, .int .i64 0, .int .i64 0, .int .i64 0, .int .i64 0, .int .i64 0, .int .i64 0, .int .i64 0, .int .u64 0, .int .i64 0, .slice none 0 0, .int .i64 0] 51)
  have bx := (Blk.new (w.alloc (.cells #[.slice A1 r.length c1, .slice A2 ks.length c2, .int .i64 s, .int .i64 t, .int .i64 f, .int .i64 l, .int .i64 p, .int .i64 k, .int .u64 ep, .slice A3 hz.length c3, .slice A4 td.length c4, .int .i64 q0, .int .i64 q1, .int .i64 q2, .int .i64 q3, .int .i64 q4, .int .i64 pk, .int .i64 sl, .int .u64 hd, .int .i64 tr, .slice A5 fr.length c5, .int .i64 ju] 51)) 82 #[.int .u64 h, .bool false]).alloc (.cells #[.slice none 0 0, .slice none 0 0, .int .i64 0, .int .i64 0, .int .i64 0, .int .i64 0, .int .i64 0, .int .i64 0, .int .u64 0, .slice none 0 0, .slice none 0 0, .int .i64 0, .int .i64 0, .int .i64 0, .int .i64 0, .int .i64 0, .int .i64 0, .int .i64 0, .int .u64 0, .int .i64 0, .slice none 0 0, .int .i64 0] 51)
  have bo := Blk.new ((w.alloc (.cells #[.slice A1 r.length c1, .slice A2 ks.length c2, .int .i64 s, .int .i64 t, .int .i64 f, .int .i64 l, .int .i64 p, .int .i64 k, .int .u64 ep, .slice A3 hz.length c3, .slice A4 td.length c4, .int .i64 q0, .int .i64 q1, .int .i64 q2, .int .i64 q3, .int .i64 q4, .int .i64 pk, .int .i64 sl, .int .u64 hd, .int .i64 tr, .slice A5 fr.length c5, .int .i64 ju] 51)).alloc (.cells #[.int .u64 h, .bool false] 82)) 51 #[.slice none 0 0, .slice none 0 0, .int .i64 0, .int .i64 0, .int .i64 0, .int .i64 0, .int .i64 0, .int .i64 0, .int .u64 0, .slice none 0 0, .slice none 0 0, .int .i64 0, .int .i64 0, .int .i64 0, .int .i64 0, .int .i64 0, .int .i64 0, .int .i64 0, .int .u64 0, .int .i64 0, .slice none 0 0, .int .i64 0]
  simp only [World.size_alloc] at bo bx
  replace t1 := ((t1.alloc (.cells #[.slice A1 r.length c1, .slice A2 ks.length c2, .int .i64 s, .int .i64 t, .int .i64 f, .int .i64 l, .int .i64 p, .int .i64 k, .int .u64 ep, .slice A3 hz.length c3, .slice A4 td.length c4, .int .i64 q0, .int .i64 q1, .int .i64 q2, .int .i64 q3, .int .i64 q4, .int .i64 pk, .int .i64 sl, .int .u64 hd, .int .i64 tr, .slice A5 fr.length c5, .int .i64 ju] 51)).alloc (.cells #[.int .u64 h, .bool false] 82)).alloc (.cells #[.slice none 0 0, .slice none 0 0, .int .i64 0, .int .i64 0, .int .i64 0, .int .i64 0, .int .i64 0, .int .i64 0, .int .u64 0, .slice none 0 0, .slice none 0 0, .int .i64 0, .int .i64 0, .int .i64 0, .int .i64 0, .int .i64 0, .int .i64 0, .int .i64 0, .int .u64 0, .int .i64 0, .slice none 0 0, .int .i64 0] 51)
  replace t2 := ((t2.alloc (.cells #[.slice A1 r.length c1, .slice A2 ks.length c2, .int .i64 s, .int .i64 t, .int .i64 f, .int .i64 l, .int .i64 p, .int .i64 k, .int .u64 ep, .slice A3 hz.length c3, .slice A4 td.length c4, .int .i64 q0, .int .i64 q1, .int .i64 q2, .int .i64 q3, .int .i64 q4, .int .i64 pk, .int .i64 sl, .int .u64 hd, .int .i64 tr, .slice A5 fr.length c5, .int .i64 ju] 51)).alloc (.cells #[.int .u64 h, .bool false] 82)).alloc (.cells #[.slice none 0 0, .slice none 0 0, .int .i64 0, .int .i64 0, .int .i64 0, .int .i64 0, .int .i64 0, .int .i64 0, .int .u64 0, .slice none 0 0, .slice none 0 0, .int .i64 0, .int .i64 0, .int .i64 0, .int .i64 0, .int .i64 0, .int .i64 0, .int .i64 0, .int .u64 0, .int .i64 0, .slice none 0 0, .int .i64 0] 51)
  replace t3 := ((t3.alloc (.cells #[.slice A1 r.length c1, .slice A2 ks.length c2, .int .i64 s, .int .i64 t, .int .i64 f, .int .i64 l, .int .i64 p, .int .i64 k, .int .u64 ep, .slice A3 hz.length c3, .slice A4 td.length c4, .int .i64 q0, .int .i64 q1, .int .i64 q2, .int .i64 q3, .int .i64 q4, .int .i64 pk, .int .i64 sl, .int .u64 hd, .int .i64 tr, .slice A5 fr.length c5, .int .i64 ju] 51)).alloc (.cells #[.int .u64 h, .bool false] 82)).alloc (.cells #[.slice none 0 0, .slice none 0 0, .int .i64 0, .int .i64 0, .int .i64 0, .int .i64 0, .int .i64 0, .int .i64 0, .int .u64 0, .slice none 0 0, .slice none 0 0, .int .i64 0, .int .i64 0, .int .i64 0, .int .i64 0, .int .i64 0, .int .i64 0, .int .i64 0, .int .u64 0, .int .i64 0, .slice none 0 0, .int .i64 0] 51)
  replace t4 := ((t4.alloc (.cells #[.slice A1 r.length c1, .slice A2 ks.length c2, .int .i64 s, .int .i64 t, .int .i64 f, .int .i64 l, .int .i64 p, .int .i64 k, .int .u64 ep, .slice A3 hz.length c3, .slice A4 td.length c4, .int .i64 q0, .int .i64 q1, .int .i64 q2, .int .i64 q3, .int .i64 q4, .int .i64 pk, .int .i64 sl, .int .u64 hd, .int .i64 tr, .slice A5 fr.length c5, .int .i64 ju] 51)).alloc (.cells #[.int .u64 h, .bool false] 82)).alloc (.cells #[.slice none 0 0, .slice none 0 0, .int .i64 0, .int .i64 0, .int .i64 0, .int .i64 0, .int .i64 0, .int .i64 0, .int .u64 0, .slice none 0 0, .slice none 0 0, .int .i64 0, .int .i64 0, .int .i64 0, .int .i64 0, .int .i64 0, .int .i64 0, .int .i64 0, .int .u64 0, .int .i64 0, .slice none 0 0, .int .i64 0] 51)
  replace t5 := ((t5.alloc (.cells #[.slice A1 r.length c1, .slice A2 ks.length c2, .int .i64 s, .int .i64 t, .int .i64 f, .int .i64 l, .int .i64 p, .int .i64 k, .int .u64 ep, .slice A3 hz.length c3, .slice A4 td.length c4, .int .i64 q0, .int .i64 q1, .int .i64 q2, .int .i64 q3, .int .i64 q4, .int .i64 pk, .int .i64 sl, .int .u64 hd, .int .i64 tr, .slice A5 fr.length c5, .int .i64 ju] 51)).alloc (.cells #[.int .u64 h, .bool false] 82)).alloc (.cells #[.slice none 0 0, .slice none 0 0, .int .i64 0, .int .i64 0, .int .i64 0, .int .i64 0, .int .i64 0, .int .i64 0, .int .u64 0, .slice none 0 0, .slice none 0 0, .int .i64 0, .int .i64 0, .int .i64 0, .int .i64 0, .int .i64 0, .int .i64 0, .int .i64 0, .int .u64 0, .int .i64 0, .slice none 0 0, .int .i64 0] 51)
  have H1 := hide h1
  have H2 := hide h2
  have H5 := hide h5
  have HW := hide hw
  have HP := hide hp
  clear h1 h2 h5 hw hp
  go_enter Tryd.func50, Tryd.ntmps50
  go_wp2_with fail
  generalize ((w.alloc (.cells #[.slice A1 r.length c1, .slice A2 ks.length c2, .int .i64 s, .int .i64 t, .int .i64 f, .int .i64 l, .int .i64 p, .int .i64 k, .int .u64 ep, .slice A3 hz.length c3, .slice A4 td.length c4, .int .i64 q0, .int .i64 q1, .int .i64 q2, .int .i64 q3, .int .i64 q4, .int .i64 pk, .int .i64 sl, .int .u64 hd, .int .i64 tr, .slice A5 fr.length c5, .int .i64 ju] 51)).alloc (.cells #[.int .u64 h, .bool false] 82)).alloc (.cells #[.slice none 0 0, .slice none 0 0, .int .i64 0, .int .i64 0, .int .i64 0, .int .i64 0, .int .i64 0, .int .i64 0, .int .u64 0, .slice none 0 0, .slice none 0 0, .int .i64 0, .int .i64 0, .int .i64 0, .int .i64 0, .int .i64 0, .int .i64 0, .int .i64 0, .int .u64 0, .int .i64 0, .slice none 0 0, .int .i64 0] 51) = w0 at *
  have mx := fun i => bx.cell i
  have ms := fun i => bs.cell i
  go_wp2_with fail
  refine (withoutR_any _ r 73 #[] #[.pointer (some ⟨w.heap.size + 1, 0, none⟩), .pointer (some ⟨w.heap.size, 0, none⟩)] (fun x => x.1 == h && ripeB x.2 ep) w0 H1.out t1 (fun args w' => run_enter Tryd.func73 (by decide) (by simp [Tryd.f73]) args w') (fun x hx w' hb => gone2_any (.slice A1 r.length c1) (.slice A2 ks.length c2) (.int .i64 s) (.int .i64 t) (.int .i64 f) (.int .i64 l) (.int .i64 p) (.int .i64 k) (.slice A3 hz.length c3) (.slice A4 td.length c4) (.int .i64 q0) (.int .i64 q1) (.int .i64 q2) (.int .i64 q3) (.int .i64 q4) (.int .i64 pk) (.int .i64 sl) (.int .u64 hd) (.int .i64 tr) (.slice A5 fr.length c5) (.int .i64 ju) ep x.1 x.2 h _ w' _ _ (HW.out x hx) HP.out (bx.below hb bx.lt) (bs.below hb bs.lt))).mono ?_
  rintro e w1 ⟨⟨u, rfl, o2⟩, hb⟩
  replace t2 := t2.below (Nat.le_refl _) hb
  replace t3 := t3.below (Nat.le_refl _) hb
  replace t4 := t4.below (Nat.le_refl _) hb
  replace t5 := t5.below (Nat.le_refl _) hb
  obtain ⟨A6, c6, rfl⟩ := o2.val
  replace bs := bs.below hb bs.lt
  replace bx := bx.below hb bx.lt
  replace bo := bo.below hb bo.lt
  replace B0 := B0.trans (hb.mono B0.size)
  clear hb mx ms
  have mx := fun i => bx.cell i
  have ms := fun i => bs.cell i
  have zs := fun i => bs.frozen i
  go_wp2_with fail
  replace o2 := o2.set_ bs (by decide) 0 (.slice A6 (r.eraseP fun x => x.1 == h && ripeB x.2 ep).length c6)
  replace t2 := t2.set_ bs (by decide) 0 (.slice A6 (r.eraseP fun x => x.1 == h && ripeB x.2 ep).length c6)
  replace t3 := t3.set_ bs (by decide) 0 (.slice A6 (r.eraseP fun x => x.1 == h && ripeB x.2 ep).length c6)
  replace t4 := t4.set_ bs (by decide) 0 (.slice A6 (r.eraseP fun x => x.1 == h && ripeB x.2 ep).length c6)
  replace t5 := t5.set_ bs (by decide) 0 (.slice A6 (r.eraseP fun x => x.1 == h && ripeB x.2 ep).length c6)
  replace bx := bx.far (p := ⟨w.heap.size, 0, none⟩) (by show w.heap.size + 1 ≠ w.heap.size; omega) (.slice A6 (r.eraseP fun x => x.1 == h && ripeB x.2 ep).length c6)
  replace bo := bo.far (p := ⟨w.heap.size, 0, none⟩) (by show w.heap.size + 1 + 1 ≠ w.heap.size; omega) (.slice A6 (r.eraseP fun x => x.1 == h && ripeB x.2 ep).length c6)
  replace B0 := B0.setCell (p := ⟨w.heap.size, 0, none⟩) (Nat.le_refl _) (.slice A6 (r.eraseP fun x => x.1 == h && ripeB x.2 ep).length c6)
  replace bs := bs.set_ 0 (.slice A6 (r.eraseP fun x => x.1 == h && ripeB x.2 ep).length c6)
  simp only [List.setIfInBounds_toArray, List.set_cons_zero, List.set_cons_succ] at bs
  clear mx ms zs
  generalize w1.setCell ⟨w.heap.size, 0, none⟩ (.slice A6 (r.eraseP fun x => x.1 == h && ripeB x.2 ep).length c6) = w2 at *
  clear t1
  have t1 := o2
  clear o2
  refine wp_region_heldZ [8] (fun w' => w'.cell? ⟨w.heap.size, 20, none⟩ = some (.slice A5 fr.length c5) ∧ w'.cell? ⟨w.heap.size + 1, 0, none⟩ = some (.int .u64 h)) (by kernel_rfl) (by exact ⟨bs.cell 20, bx.cell 0⟩) (fun hHeld => ?_)
  replace t1 := t1.drew
  replace t2 := t2.drew
  replace t3 := t3.drew
  replace t4 := t4.drew
  replace t5 := t5.drew
  replace bs := bs.drew
  replace bx := bx.drew
  replace bo := bo.drew
  replace B0 := B0.drew
  generalize w2.drew = wd at *
  refine' wpAnyZ_takeA (i := 0) (v := ?_) (opAt rfl) (by kernel_rfl) (by kernel_rfl) (by kernel_rfl) (by kernel_rfl) (fun _ _ _ h => h) (by assumption) (by rfl) (fun w hSw => ?_) ?_
  rotate_left
  · (try dsimp only at hSw); go_simp; (try with_reducible rfl)
  try simp only [Act.put, List.setIfInBounds_toArray, List.set_cons_zero, List.set_cons_succ]
  refine' wpAnyZ_takeA (i := 1) (v := ?_) (opAt rfl) (by kernel_rfl) (by kernel_rfl) (by kernel_rfl) (by kernel_rfl) (fun _ _ _ h => h) (by assumption) (by rfl) (fun w hSw => ?_) ?_
  rotate_left
  · (try dsimp only at hSw); go_simp; (try with_reducible rfl)
  try simp only [Act.put, List.setIfInBounds_toArray, List.set_cons_zero, List.set_cons_succ]
  refine' wpAnyZ_takeA (i := 3) (v := ?_) (opAt rfl) (by kernel_rfl) (by kernel_rfl) (by kernel_rfl) (by kernel_rfl) (fun _ _ _ h => h) (by assumption) (by rfl) (fun w hSw => ?_) ?_
  rotate_left
  · (try dsimp only at hSw); go_simp; (try with_reducible rfl)
  try simp only [Act.put, List.setIfInBounds_toArray, List.set_cons_zero, List.set_cons_succ]
  refine' wpAnyZ_takeA (i := 4) (v := ?_) (opAt rfl) (by kernel_rfl) (by kernel_rfl) (by kernel_rfl) (by kernel_rfl) (fun _ _ _ h => h) (by assumption) (by rfl) (fun w hSw => ?_) ?_
  rotate_left
  · (try dsimp only at hSw); go_simp; (try with_reducible rfl)
  try simp only [Act.put, List.setIfInBounds_toArray, List.set_cons_zero, List.set_cons_succ]
  refine wpAnyZ_ready (rs := [2, 5]) (by kernel_rfl) (by simp) ?_
  refine AllReadyZ.cons (opAt rfl) (fun K hK => ?_) ?_
  · skip
    go_simp
    refine (clipu_any A5 fr.length c5 _ t5.cap.1 t5.cap.2.1).mono ?_
    rintro e w' ⟨rfl, rfl⟩
    try go_wp2_with fail
    refine hK.out _ _ (by exact ⟨bs.cell 20, bx.cell 0⟩) (fun hHeld => ?_)
    clear hK K
    try simp only [Act.put, List.setIfInBounds_toArray, List.set_cons_zero, List.set_cons_succ]
    refine wpAnyZ_ready (rs := [5]) (by kernel_rfl) (by simp) ?_
    refine AllReadyZ.cons (opAt rfl) (fun K hK => ?_) ?_
    · skip
      go_simp
      have bl := Blk.new wd 29 #[.int .u64 h]
      replace t1 := t1.alloc (.cells #[.int .u64 h] 29)
      replace t2 := t2.alloc (.cells #[.int .u64 h] 29)
      replace t3 := t3.alloc (.cells #[.int .u64 h] 29)
      replace t4 := t4.alloc (.cells #[.int .u64 h] 29)
      replace t5 := t5.alloc (.cells #[.int .u64 h] 29)
      replace bs := bs.alloc (.cells #[.int .u64 h] 29)
      replace bx := bx.alloc (.cells #[.int .u64 h] 29)
      replace bo := bo.alloc (.cells #[.int .u64 h] 29)
      replace B0 := B0.alloc B0.size (.cells #[.int .u64 h] 29)
      generalize wd.heap.size = g5 at *
      generalize wd.alloc (.cells #[.int .u64 h] 29) = w3 at *
      refine hK.out _ _ (by exact ⟨bs.cell 20, bx.cell 0⟩) (fun hHeld => ?_)
      clear hK K
      try simp only [Act.put, List.setIfInBounds_toArray, List.set_cons_zero, List.set_cons_succ]
      refine wpAnyZ_ready (rs := [6]) (by kernel_rfl) (by simp) ?_
      refine AllReadyZ.cons (opAt rfl) (fun K hK => ?_) ?_
      · skip
        refine step_append_grows (by rfl) (.tmp 23) (.tmp 26) _ (by rfl) 29 i0 _ 1 8 Tryd.underlying23 hi0 hz0 hs0 hb0 rfl (by decide) A5 fr.length fr.length (ints .u64 fr) (by rfl) (fun h => ⟨(t5.cap.2.2 h).1, (t5.cap.2.2 h).1⟩) (by rw [ints_len, Nat.mul_one]) t5.holds ⟨g5, 0, none⟩ 1 1 [.int .u64 h] (by rfl) rfl (fun j u hj => by rw [Addr.add_lit]; have := bl.cell j; simpa [this] using hj) (fun u hu => by simp only [List.mem_cons, List.not_mem_nil, or_false] at hu; subst hu; rfl) (by omega) (by unfold maxLen; have := H5.out; omega) (by have := H5.out; omega) ?_
        intro v5 w4 o5 hg
        replace t1 := t1.grown_none hg
        replace t2 := t2.grown_none hg
        replace t3 := t3.grown_none hg
        replace t4 := t4.grown_none hg
        replace bs := bs.grown hg (by simp)
        replace bx := bx.grown hg (by simp)
        replace bo := bo.grown hg (by simp)
        replace B0 := B0.grown hg B0.size (fun _ h => by cases h)
        clear t5
        obtain ⟨m5, HM5⟩ : ∃ m, Hid (m = (fr ++ [h]).length) := ⟨_, hide rfl⟩
        have t5 : Tr w4 29 1 v5 m5 (ints .u64 (fr ++ [h])) := by rw [HM5.out, ints_append, List.length_append]; exact Tr.of_own o5
        obtain ⟨A7, c7, rfl⟩ := t5.val
        clear o5 hg bl
        refine hK.out _ _ (by exact ⟨bs.cell 20, bx.cell 0⟩) (fun hHeld => ?_)
        clear hK K
        try simp only [Act.put, List.setIfInBounds_toArray, List.set_cons_zero, List.set_cons_succ]
        refine' wpAnyZ_takeA (i := 7) (v := ?_) (opAt rfl) (by kernel_rfl) (by kernel_rfl) (by kernel_rfl) (by kernel_rfl) (fun _ _ _ h => h) (by assumption) (by rfl) (fun w hSw => ?_) ?_
        rotate_left
        · (try dsimp only at hSw); go_simp; (try with_reducible rfl)
        try simp only [Act.put, List.setIfInBounds_toArray, List.set_cons_zero, List.set_cons_succ]
        refine wpAnyZ_ready (rs := [8]) (by kernel_rfl) (by simp) ?_
        refine AllReadyZ.last (opAt rfl) (by kernel_rfl) (fun K hK => ?_) ?_
        · skip
          have zs := fun i => bs.frozen i
          have ms := fun i => bs.cell i
          go_simp
          refine hK.out _ _ ?_
          clear hK K
          try simp only [Act.put, List.setIfInBounds_toArray, List.set_cons_zero, List.set_cons_succ]
          refine wpAnyZ_done (by kernel_rfl) ?_ _
          replace t1 := t1.set_ bs (by decide) 20 (.slice A7 m5 c7)
          replace t2 := t2.set_ bs (by decide) 20 (.slice A7 m5 c7)
          replace t3 := t3.set_ bs (by decide) 20 (.slice A7 m5 c7)
          replace t4 := t4.set_ bs (by decide) 20 (.slice A7 m5 c7)
          replace t5 := t5.set_ bs (by decide) 20 (.slice A7 m5 c7)
          replace bo := bo.far (p := ⟨w.heap.size, 20, none⟩) (by show w.heap.size + 1 + 1 ≠ w.heap.size; omega) (.slice A7 m5 c7)
          replace B0 := B0.setCell (p := ⟨w.heap.size, 20, none⟩) (Nat.le_refl _) (.slice A7 m5 c7)
          replace bs := bs.set_ 20 (.slice A7 m5 c7)
          simp only [List.setIfInBounds_toArray, List.set_cons_zero, List.set_cons_succ] at bs
          clear bx zs ms hHeld
          generalize w4.setCell ⟨w.heap.size, 20, none⟩ (.slice A7 m5 c7) = w5 at *
          go_wp2_with (first | (refine wpList_load_mid rfl 51 (.tmp 2) rfl w.heap.size 0 (by rfl) [.slice A6 (r.eraseP fun x => x.1 == h && ripeB x.2 ep).length c6, .slice A2 ks.length c2, .int .i64 s, .int .i64 t, .int .i64 f, .int .i64 l, .int .i64 p, .int .i64 k, .int .u64 ep, .slice A3 hz.length c3, .slice A4 td.length c4, .int .i64 q0, .int .i64 q1, .int .i64 q2, .int .i64 q3, .int .i64 q4, .int .i64 pk, .int .i64 sl, .int .u64 hd, .int .i64 tr, .slice A7 m5 c7, .int .i64 ju] _ bs.range Tryd.underlying51 rfl (by kernel_rfl) ?_) | (refine wpList_store_mid rfl 51 (.tmp 4) (.tmp 29) rfl (w.heap.size + 1 + 1) 0 #[.slice A6 (r.eraseP fun x => x.1 == h && ripeB x.2 ep).length c6, .slice A2 ks.length c2, .int .i64 s, .int .i64 t, .int .i64 f, .int .i64 l, .int .i64 p, .int .i64 k, .int .u64 ep, .slice A3 hz.length c3, .slice A4 td.length c4, .int .i64 q0, .int .i64 q1, .int .i64 q2, .int .i64 q3, .int .i64 q4, .int .i64 pk, .int .i64 sl, .int .u64 hd, .int .i64 tr, .slice A7 m5 c7, .int .i64 ju] (by rfl) (by rfl) (bo.there rfl) (by kernel_rfl) (by kernel_rfl) ?_))
          replace t1 := (show Tr (w5.setCells (w.heap.size + 1 + 1) 0 [.slice A6 (r.eraseP fun x => x.1 == h && ripeB x.2 ep).length c6, .slice A2 ks.length c2, .int .i64 s, .int .i64 t, .int .i64 f, .int .i64 l, .int .i64 p, .int .i64 k, .int .u64 ep, .slice A3 hz.length c3, .slice A4 td.length c4, .int .i64 q0, .int .i64 q1, .int .i64 q2, .int .i64 q3, .int .i64 q4, .int .i64 pk, .int .i64 sl, .int .u64 hd, .int .i64 tr, .slice A7 m5 c7, .int .i64 ju]) _ _ _ _ _ from by rw [putL_eq]; exact Tr.putL (by decide) _ 0 bo t1)
          replace t2 := (show Tr (w5.setCells (w.heap.size + 1 + 1) 0 [.slice A6 (r.eraseP fun x => x.1 == h && ripeB x.2 ep).length c6, .slice A2 ks.length c2, .int .i64 s, .int .i64 t, .int .i64 f, .int .i64 l, .int .i64 p, .int .i64 k, .int .u64 ep, .slice A3 hz.length c3, .slice A4 td.length c4, .int .i64 q0, .int .i64 q1, .int .i64 q2, .int .i64 q3, .int .i64 q4, .int .i64 pk, .int .i64 sl, .int .u64 hd, .int .i64 tr, .slice A7 m5 c7, .int .i64 ju]) _ _ _ _ _ from by rw [putL_eq]; exact Tr.putL (by decide) _ 0 bo t2)
          replace t3 := (show Tr (w5.setCells (w.heap.size + 1 + 1) 0 [.slice A6 (r.eraseP fun x => x.1 == h && ripeB x.2 ep).length c6, .slice A2 ks.length c2, .int .i64 s, .int .i64 t, .int .i64 f, .int .i64 l, .int .i64 p, .int .i64 k, .int .u64 ep, .slice A3 hz.length c3, .slice A4 td.length c4, .int .i64 q0, .int .i64 q1, .int .i64 q2, .int .i64 q3, .int .i64 q4, .int .i64 pk, .int .i64 sl, .int .u64 hd, .int .i64 tr, .slice A7 m5 c7, .int .i64 ju]) _ _ _ _ _ from by rw [putL_eq]; exact Tr.putL (by decide) _ 0 bo t3)
          replace t4 := (show Tr (w5.setCells (w.heap.size + 1 + 1) 0 [.slice A6 (r.eraseP fun x => x.1 == h && ripeB x.2 ep).length c6, .slice A2 ks.length c2, .int .i64 s, .int .i64 t, .int .i64 f, .int .i64 l, .int .i64 p, .int .i64 k, .int .u64 ep, .slice A3 hz.length c3, .slice A4 td.length c4, .int .i64 q0, .int .i64 q1, .int .i64 q2, .int .i64 q3, .int .i64 q4, .int .i64 pk, .int .i64 sl, .int .u64 hd, .int .i64 tr, .slice A7 m5 c7, .int .i64 ju]) _ _ _ _ _ from by rw [putL_eq]; exact Tr.putL (by decide) _ 0 bo t4)
          replace t5 := (show Tr (w5.setCells (w.heap.size + 1 + 1) 0 [.slice A6 (r.eraseP fun x => x.1 == h && ripeB x.2 ep).length c6, .slice A2 ks.length c2, .int .i64 s, .int .i64 t, .int .i64 f, .int .i64 l, .int .i64 p, .int .i64 k, .int .u64 ep, .slice A3 hz.length c3, .slice A4 td.length c4, .int .i64 q0, .int .i64 q1, .int .i64 q2, .int .i64 q3, .int .i64 q4, .int .i64 pk, .int .i64 sl, .int .u64 hd, .int .i64 tr, .slice A7 m5 c7, .int .i64 ju]) _ _ _ _ _ from by rw [putL_eq]; exact Tr.putL (by decide) _ 0 bo t5)
          replace B0 := (show Below w.heap.size w (w5.setCells (w.heap.size + 1 + 1) 0 [.slice A6 (r.eraseP fun x => x.1 == h && ripeB x.2 ep).length c6, .slice A2 ks.length c2, .int .i64 s, .int .i64 t, .int .i64 f, .int .i64 l, .int .i64 p, .int .i64 k, .int .u64 ep, .slice A3 hz.length c3, .slice A4 td.length c4, .int .i64 q0, .int .i64 q1, .int .i64 q2, .int .i64 q3, .int .i64 q4, .int .i64 pk, .int .i64 sl, .int .u64 hd, .int .i64 tr, .slice A7 m5 c7, .int .i64 ju]) from by rw [putL_eq]; exact Below.putL (by omega) _ _ 0 B0)
          replace bo := (show Blk (w5.setCells (w.heap.size + 1 + 1) 0 [.slice A6 (r.eraseP fun x => x.1 == h && ripeB x.2 ep).length c6, .slice A2 ks.length c2, .int .i64 s, .int .i64 t, .int .i64 f, .int .i64 l, .int .i64 p, .int .i64 k, .int .u64 ep, .slice A3 hz.length c3, .slice A4 td.length c4, .int .i64 q0, .int .i64 q1, .int .i64 q2, .int .i64 q3, .int .i64 q4, .int .i64 pk, .int .i64 sl, .int .u64 hd, .int .i64 tr, .slice A7 m5 c7, .int .i64 ju]) (w.heap.size + 1 + 1) 51 #[.slice A6 (r.eraseP fun x => x.1 == h && ripeB x.2 ep).length c6, .slice A2 ks.length c2, .int .i64 s, .int .i64 t, .int .i64 f, .int .i64 l, .int .i64 p, .int .i64 k, .int .u64 ep, .slice A3 hz.length c3, .slice A4 td.length c4, .int .i64 q0, .int .i64 q1, .int .i64 q2, .int .i64 q3, .int .i64 q4, .int .i64 pk, .int .i64 sl, .int .u64 hd, .int .i64 tr, .slice A7 m5 c7, .int .i64 ju] from by rw [putL_eq]; have h9 := Blk.putL [.slice A6 (r.eraseP fun x => x.1 == h && ripeB x.2 ep).length c6, .slice A2 ks.length c2, .int .i64 s, .int .i64 t, .int .i64 f, .int .i64 l, .int .i64 p, .int .i64 k, .int .u64 ep, .slice A3 hz.length c3, .slice A4 td.length c4, .int .i64 q0, .int .i64 q1, .int .i64 q2, .int .i64 q3, .int .i64 q4, .int .i64 pk, .int .i64 sl, .int .u64 hd, .int .i64 tr, .slice A7 m5 c7, .int .i64 ju] _ _ 0 bo; simpa only [setL, List.setIfInBounds_toArray, List.set_cons_zero, List.set_cons_succ] using h9)
          clear bs
          generalize w5.setCells (w.heap.size + 1 + 1) 0 [.slice A6 (r.eraseP fun x => x.1 == h && ripeB x.2 ep).length c6, .slice A2 ks.length c2, .int .i64 s, .int .i64 t, .int .i64 f, .int .i64 l, .int .i64 p, .int .i64 k, .int .u64 ep, .slice A3 hz.length c3, .slice A4 td.length c4, .int .i64 q0, .int .i64 q1, .int .i64 q2, .int .i64 q3, .int .i64 q4, .int .i64 pk, .int .i64 sl, .int .u64 hd, .int .i64 tr, .slice A7 m5 c7, .int .i64 ju] = w12 at *
          have hres : (loadVar 51 ⟨w.heap.size + 1 + 1, 0, none⟩).run Tryd.prog w12 = .ok (.agg #[.slice A6 (r.eraseP fun x => x.1 == h && ripeB x.2 ep).length c6, .slice A2 ks.length c2, .int .i64 s, .int .i64 t, .int .i64 f, .int .i64 l, .int .i64 p, .int .i64 k, .int .u64 ep, .slice A3 hz.length c3, .slice A4 td.length c4, .int .i64 q0, .int .i64 q1, .int .i64 q2, .int .i64 q3, .int .i64 q4, .int .i64 pk, .int .i64 sl, .int .u64 hd, .int .i64 tr, .slice A7 m5 c7, .int .i64 ju]) w12 := run_loadVar_mid w12 _ 0 _ [.slice A6 (r.eraseP fun x => x.1 == h && ripeB x.2 ep).length c6, .slice A2 ks.length c2, .int .i64 s, .int .i64 t, .int .i64 f, .int .i64 l, .int .i64 p, .int .i64 k, .int .u64 ep, .slice A3 hz.length c3, .slice A4 td.length c4, .int .i64 q0, .int .i64 q1, .int .i64 q2, .int .i64 q3, .int .i64 q4, .int .i64 pk, .int .i64 sl, .int .u64 hd, .int .i64 tr, .slice A7 m5 c7, .int .i64 ju] _ bo.range Tryd.underlying51 rfl (by kernel_rfl)
          refine bodyPost_ret (v := .agg #[.slice A6 (r.eraseP fun x => x.1 == h && ripeB x.2 ep).length c6, .slice A2 ks.length c2, .int .i64 s, .int .i64 t, .int .i64 f, .int .i64 l, .int .i64 p, .int .i64 k, .int .u64 ep, .slice A3 hz.length c3, .slice A4 td.length c4, .int .i64 q0, .int .i64 q1, .int .i64 q2, .int .i64 q3, .int .i64 q4, .int .i64 pk, .int .i64 sl, .int .u64 hd, .int .i64 tr, .slice A7 m5 c7, .int .i64 ju]) (by simp [results, Tryd.results50, Act.put, asAddr, hres]) rfl (by have hm := HM5.out; subst hm; exact ⟨⟨_, rfl, _, _, _, _, _, _, _, _, _, _, rfl, t1, t2, t3, t4, t5⟩, B0⟩)
        exact AllReadyZ.nil
      exact AllReadyZ.nil
    exact AllReadyZ.nil
  refine AllReadyZ.cons (opAt rfl) (fun K hK => ?_) ?_
  · skip
    go_simp
    have bl := Blk.new wd 29 #[.int .u64 h]
    replace t1 := t1.alloc (.cells #[.int .u64 h] 29)
    replace t2 := t2.alloc (.cells #[.int .u64 h] 29)
    replace t3 := t3.alloc (.cells #[.int .u64 h] 29)
    replace t4 := t4.alloc (.cells #[.int .u64 h] 29)
    replace t5 := t5.alloc (.cells #[.int .u64 h] 29)
    replace bs := bs.alloc (.cells #[.int .u64 h] 29)
    replace bx := bx.alloc (.cells #[.int .u64 h] 29)
    replace bo := bo.alloc (.cells #[.int .u64 h] 29)
    replace B0 := B0.alloc B0.size (.cells #[.int .u64 h] 29)
    generalize wd.heap.size = g5 at *
    generalize wd.alloc (.cells #[.int .u64 h] 29) = w3 at *
    refine hK.out _ _ (by exact ⟨bs.cell 20, bx.cell 0⟩) (fun hHeld => ?_)
    clear hK K
    try simp only [Act.put, List.setIfInBounds_toArray, List.set_cons_zero, List.set_cons_succ]
    refine wpAnyZ_ready (rs := [2]) (by kernel_rfl) (by simp) ?_
    refine AllReadyZ.cons (opAt rfl) (fun K hK => ?_) ?_
    · skip
      go_simp
      refine (clipu_any A5 fr.length c5 _ t5.cap.1 t5.cap.2.1).mono ?_
      rintro e w' ⟨rfl, rfl⟩
      try go_wp2_with fail
      refine hK.out _ _ (by exact ⟨bs.cell 20, bx.cell 0⟩) (fun hHeld => ?_)
      clear hK K
      try simp only [Act.put, List.setIfInBounds_toArray, List.set_cons_zero, List.set_cons_succ]
      refine wpAnyZ_ready (rs := [6]) (by kernel_rfl) (by simp) ?_
      refine AllReadyZ.cons (opAt rfl) (fun K hK => ?_) ?_
      · skip
        refine step_append_grows (by rfl) (.tmp 23) (.tmp 26) _ (by rfl) 29 i0 _ 1 8 Tryd.underlying23 hi0 hz0 hs0 hb0 rfl (by decide) A5 fr.length fr.length (ints .u64 fr) (by rfl) (fun h => ⟨(t5.cap.2.2 h).1, (t5.cap.2.2 h).1⟩) (by rw [ints_len, Nat.mul_one]) t5.holds ⟨g5, 0, none⟩ 1 1 [.int .u64 h] (by rfl) rfl (fun j u hj => by rw [Addr.add_lit]; have := bl.cell j; simpa [this] using hj) (fun u hu => by simp only [List.mem_cons, List.not_mem_nil, or_false] at hu; subst hu; rfl) (by omega) (by unfold maxLen; have := H5.out; omega) (by have := H5.out; omega) ?_
        intro v5 w4 o5 hg
        replace t1 := t1.grown_none hg
        replace t2 := t2.grown_none hg
        replace t3 := t3.grown_none hg
        replace t4 := t4.grown_none hg
        replace bs := bs.grown hg (by simp)
        replace bx := bx.grown hg (by simp)
        replace bo := bo.grown hg (by simp)
        replace B0 := B0.grown hg B0.size (fun _ h => by cases h)
        clear t5
        obtain ⟨m5, HM5⟩ : ∃ m, Hid (m = (fr ++ [h]).length) := ⟨_, hide rfl⟩
        have t5 : Tr w4 29 1 v5 m5 (ints .u64 (fr ++ [h])) := by rw [HM5.out, ints_append, List.length_append]; exact Tr.of_own o5
        obtain ⟨A7, c7, rfl⟩ := t5.val
        clear o5 hg bl
        refine hK.out _ _ (by exact ⟨bs.cell 20, bx.cell 0⟩) (fun hHeld => ?_)
        clear hK K
        try simp only [Act.put, List.setIfInBounds_toArray, List.set_cons_zero, List.set_cons_succ]
        refine' wpAnyZ_takeA (i := 7) (v := ?_) (opAt rfl) (by kernel_rfl) (by kernel_rfl) (by kernel_rfl) (by kernel_rfl) (fun _ _ _ h => h) (by assumption) (by rfl) (fun w hSw => ?_) ?_
        rotate_left
        · (try dsimp only at hSw); go_simp; (try with_reducible rfl)
        try simp only [Act.put, List.setIfInBounds_toArray, List.set_cons_zero, List.set_cons_succ]
        refine wpAnyZ_ready (rs := [8]) (by kernel_rfl) (by simp) ?_
        refine AllReadyZ.last (opAt rfl) (by kernel_rfl) (fun K hK => ?_) ?_
        · skip
          have zs := fun i => bs.frozen i
          have ms := fun i => bs.cell i
          go_simp
          refine hK.out _ _ ?_
          clear hK K
          try simp only [Act.put, List.setIfInBounds_toArray, List.set_cons_zero, List.set_cons_succ]
          refine wpAnyZ_done (by kernel_rfl) ?_ _
          replace t1 := t1.set_ bs (by decide) 20 (.slice A7 m5 c7)
          replace t2 := t2.set_ bs (by decide) 20 (.slice A7 m5 c7)
          replace t3 := t3.set_ bs (by decide) 20 (.slice A7 m5 c7)
          replace t4 := t4.set_ bs (by decide) 20 (.slice A7 m5 c7)
          replace t5 := t5.set_ bs (by decide) 20 (.slice A7 m5 c7)
          replace bo := bo.far (p := ⟨w.heap.size, 20, none⟩) (by show w.heap.size + 1 + 1 ≠ w.heap.size; omega) (.slice A7 m5 c7)
          replace B0 := B0.setCell (p := ⟨w.heap.size, 20, none⟩) (Nat.le_refl _) (.slice A7 m5 c7)
          replace bs := bs.set_ 20 (.slice A7 m5 c7)
          simp only [List.setIfInBounds_toArray, List.set_cons_zero, List.set_cons_succ] at bs
          clear bx zs ms hHeld
          generalize w4.setCell ⟨w.heap.size, 20, none⟩ (.slice A7 m5 c7) = w5 at *
          go_wp2_with (first | (refine wpList_load_mid rfl 51 (.tmp 2) rfl w.heap.size 0 (by rfl) [.slice A6 (r.eraseP fun x => x.1 == h && ripeB x.2 ep).length c6, .slice A2 ks.length c2, .int .i64 s, .int .i64 t, .int .i64 f, .int .i64 l, .int .i64 p, .int .i64 k, .int .u64 ep, .slice A3 hz.length c3, .slice A4 td.length c4, .int .i64 q0, .int .i64 q1, .int .i64 q2, .int .i64 q3, .int .i64 q4, .int .i64 pk, .int .i64 sl, .int .u64 hd, .int .i64 tr, .slice A7 m5 c7, .int .i64 ju] _ bs.range Tryd.underlying51 rfl (by kernel_rfl) ?_) | (refine wpList_store_mid rfl 51 (.tmp 4) (.tmp 29) rfl (w.heap.size + 1 + 1) 0 #[.slice A6 (r.eraseP fun x => x.1 == h && ripeB x.2 ep).length c6, .slice A2 ks.length c2, .int .i64 s, .int .i64 t, .int .i64 f, .int .i64 l, .int .i64 p, .int .i64 k, .int .u64 ep, .slice A3 hz.length c3, .slice A4 td.length c4, .int .i64 q0, .int .i64 q1, .int .i64 q2, .int .i64 q3, .int .i64 q4, .int .i64 pk, .int .i64 sl, .int .u64 hd, .int .i64 tr, .slice A7 m5 c7, .int .i64 ju] (by rfl) (by rfl) (bo.there rfl) (by kernel_rfl) (by kernel_rfl) ?_))
          replace t1 := (show Tr (w5.setCells (w.heap.size + 1 + 1) 0 [.slice A6 (r.eraseP fun x => x.1 == h && ripeB x.2 ep).length c6, .slice A2 ks.length c2, .int .i64 s, .int .i64 t, .int .i64 f, .int .i64 l, .int .i64 p, .int .i64 k, .int .u64 ep, .slice A3 hz.length c3, .slice A4 td.length c4, .int .i64 q0, .int .i64 q1, .int .i64 q2, .int .i64 q3, .int .i64 q4, .int .i64 pk, .int .i64 sl, .int .u64 hd, .int .i64 tr, .slice A7 m5 c7, .int .i64 ju]) _ _ _ _ _ from by rw [putL_eq]; exact Tr.putL (by decide) _ 0 bo t1)
          replace t2 := (show Tr (w5.setCells (w.heap.size + 1 + 1) 0 [.slice A6 (r.eraseP fun x => x.1 == h && ripeB x.2 ep).length c6, .slice A2 ks.length c2, .int .i64 s, .int .i64 t, .int .i64 f, .int .i64 l, .int .i64 p, .int .i64 k, .int .u64 ep, .slice A3 hz.length c3, .slice A4 td.length c4, .int .i64 q0, .int .i64 q1, .int .i64 q2, .int .i64 q3, .int .i64 q4, .int .i64 pk, .int .i64 sl, .int .u64 hd, .int .i64 tr, .slice A7 m5 c7, .int .i64 ju]) _ _ _ _ _ from by rw [putL_eq]; exact Tr.putL (by decide) _ 0 bo t2)
          replace t3 := (show Tr (w5.setCells (w.heap.size + 1 + 1) 0 [.slice A6 (r.eraseP fun x => x.1 == h && ripeB x.2 ep).length c6, .slice A2 ks.length c2, .int .i64 s, .int .i64 t, .int .i64 f, .int .i64 l, .int .i64 p, .int .i64 k, .int .u64 ep, .slice A3 hz.length c3, .slice A4 td.length c4, .int .i64 q0, .int .i64 q1, .int .i64 q2, .int .i64 q3, .int .i64 q4, .int .i64 pk, .int .i64 sl, .int .u64 hd, .int .i64 tr, .slice A7 m5 c7, .int .i64 ju]) _ _ _ _ _ from by rw [putL_eq]; exact Tr.putL (by decide) _ 0 bo t3)
          replace t4 := (show Tr (w5.setCells (w.heap.size + 1 + 1) 0 [.slice A6 (r.eraseP fun x => x.1 == h && ripeB x.2 ep).length c6, .slice A2 ks.length c2, .int .i64 s, .int .i64 t, .int .i64 f, .int .i64 l, .int .i64 p, .int .i64 k, .int .u64 ep, .slice A3 hz.length c3, .slice A4 td.length c4, .int .i64 q0, .int .i64 q1, .int .i64 q2, .int .i64 q3, .int .i64 q4, .int .i64 pk, .int .i64 sl, .int .u64 hd, .int .i64 tr, .slice A7 m5 c7, .int .i64 ju]) _ _ _ _ _ from by rw [putL_eq]; exact Tr.putL (by decide) _ 0 bo t4)
          replace t5 := (show Tr (w5.setCells (w.heap.size + 1 + 1) 0 [.slice A6 (r.eraseP fun x => x.1 == h && ripeB x.2 ep).length c6, .slice A2 ks.length c2, .int .i64 s, .int .i64 t, .int .i64 f, .int .i64 l, .int .i64 p, .int .i64 k, .int .u64 ep, .slice A3 hz.length c3, .slice A4 td.length c4, .int .i64 q0, .int .i64 q1, .int .i64 q2, .int .i64 q3, .int .i64 q4, .int .i64 pk, .int .i64 sl, .int .u64 hd, .int .i64 tr, .slice A7 m5 c7, .int .i64 ju]) _ _ _ _ _ from by rw [putL_eq]; exact Tr.putL (by decide) _ 0 bo t5)
          replace B0 := (show Below w.heap.size w (w5.setCells (w.heap.size + 1 + 1) 0 [.slice A6 (r.eraseP fun x => x.1 == h && ripeB x.2 ep).length c6, .slice A2 ks.length c2, .int .i64 s, .int .i64 t, .int .i64 f, .int .i64 l, .int .i64 p, .int .i64 k, .int .u64 ep, .slice A3 hz.length c3, .slice A4 td.length c4, .int .i64 q0, .int .i64 q1, .int .i64 q2, .int .i64 q3, .int .i64 q4, .int .i64 pk, .int .i64 sl, .int .u64 hd, .int .i64 tr, .slice A7 m5 c7, .int .i64 ju]) from by rw [putL_eq]; exact Below.putL (by omega) _ _ 0 B0)
          replace bo := (show Blk (w5.setCells (w.heap.size + 1 + 1) 0 [.slice A6 (r.eraseP fun x => x.1 == h && ripeB x.2 ep).length c6, .slice A2 ks.length c2, .int .i64 s, .int .i64 t, .int .i64 f, .int .i64 l, .int .i64 p, .int .i64 k, .int .u64 ep, .slice A3 hz.length c3, .slice A4 td.length c4, .int .i64 q0, .int .i64 q1, .int .i64 q2, .int .i64 q3, .int .i64 q4, .int .i64 pk, .int .i64 sl, .int .u64 hd, .int .i64 tr, .slice A7 m5 c7, .int .i64 ju]) (w.heap.size + 1 + 1) 51 #[.slice A6 (r.eraseP fun x => x.1 == h && ripeB x.2 ep).length c6, .slice A2 ks.length c2, .int .i64 s, .int .i64 t, .int .i64 f, .int .i64 l, .int .i64 p, .int .i64 k, .int .u64 ep, .slice A3 hz.length c3, .slice A4 td.length c4, .int .i64 q0, .int .i64 q1, .int .i64 q2, .int .i64 q3, .int .i64 q4, .int .i64 pk, .int .i64 sl, .int .u64 hd, .int .i64 tr, .slice A7 m5 c7, .int .i64 ju] from by rw [putL_eq]; have h9 := Blk.putL [.slice A6 (r.eraseP fun x => x.1 == h && ripeB x.2 ep).length c6, .slice A2 ks.length c2, .int .i64 s, .int .i64 t, .int .i64 f, .int .i64 l, .int .i64 p, .int .i64 k, .int .u64 ep, .slice A3 hz.length c3, .slice A4 td.length c4, .int .i64 q0, .int .i64 q1, .int .i64 q2, .int .i64 q3, .int .i64 q4, .int .i64 pk, .int .i64 sl, .int .u64 hd, .int .i64 tr, .slice A7 m5 c7, .int .i64 ju] _ _ 0 bo; simpa only [setL, List.setIfInBounds_toArray, List.set_cons_zero, List.set_cons_succ] using h9)
          clear bs
          generalize w5.setCells (w.heap.size + 1 + 1) 0 [.slice A6 (r.eraseP fun x => x.1 == h && ripeB x.2 ep).length c6, .slice A2 ks.length c2, .int .i64 s, .int .i64 t, .int .i64 f, .int .i64 l, .int .i64 p, .int .i64 k, .int .u64 ep, .slice A3 hz.length c3, .slice A4 td.length c4, .int .i64 q0, .int .i64 q1, .int .i64 q2, .int .i64 q3, .int .i64 q4, .int .i64 pk, .int .i64 sl, .int .u64 hd, .int .i64 tr, .slice A7 m5 c7, .int .i64 ju] = w12 at *
          have hres : (loadVar 51 ⟨w.heap.size + 1 + 1, 0, none⟩).run Tryd.prog w12 = .ok (.agg #[.slice A6 (r.eraseP fun x => x.1 == h && ripeB x.2 ep).length c6, .slice A2 ks.length c2, .int .i64 s, .int .i64 t, .int .i64 f, .int .i64 l, .int .i64 p, .int .i64 k, .int .u64 ep, .slice A3 hz.length c3, .slice A4 td.length c4, .int .i64 q0, .int .i64 q1, .int .i64 q2, .int .i64 q3, .int .i64 q4, .int .i64 pk, .int .i64 sl, .int .u64 hd, .int .i64 tr, .slice A7 m5 c7, .int .i64 ju]) w12 := run_loadVar_mid w12 _ 0 _ [.slice A6 (r.eraseP fun x => x.1 == h && ripeB x.2 ep).length c6, .slice A2 ks.length c2, .int .i64 s, .int .i64 t, .int .i64 f, .int .i64 l, .int .i64 p, .int .i64 k, .int .u64 ep, .slice A3 hz.length c3, .slice A4 td.length c4, .int .i64 q0, .int .i64 q1, .int .i64 q2, .int .i64 q3, .int .i64 q4, .int .i64 pk, .int .i64 sl, .int .u64 hd, .int .i64 tr, .slice A7 m5 c7, .int .i64 ju] _ bo.range Tryd.underlying51 rfl (by kernel_rfl)
          refine bodyPost_ret (v := .agg #[.slice A6 (r.eraseP fun x => x.1 == h && ripeB x.2 ep).length c6, .slice A2 ks.length c2, .int .i64 s, .int .i64 t, .int .i64 f, .int .i64 l, .int .i64 p, .int .i64 k, .int .u64 ep, .slice A3 hz.length c3, .slice A4 td.length c4, .int .i64 q0, .int .i64 q1, .int .i64 q2, .int .i64 q3, .int .i64 q4, .int .i64 pk, .int .i64 sl, .int .u64 hd, .int .i64 tr, .slice A7 m5 c7, .int .i64 ju]) (by simp [results, Tryd.results50, Act.put, asAddr, hres]) rfl (by have hm := HM5.out; subst hm; exact ⟨⟨_, rfl, _, _, _, _, _, _, _, _, _, _, rfl, t1, t2, t3, t4, t5⟩, B0⟩)
        exact AllReadyZ.nil
      exact AllReadyZ.nil
    exact AllReadyZ.nil
  exact AllReadyZ.nil
end Go.Proofs.YtokcbipmocpllaaDoor

/-
  A block all of whose cells are stored, one behind the other.
-/
namespace Go.Proofs.YtokcbipmocpllaaDoor
open Go.RowKit

theorem Blk.put4 {w : World} {g : Nat} {T : TypeId} {c0 c1 c2 c3 : Value} (h : Blk w g T #[c0, c1, c2, c3]) (v0 v1 v2 v3 : Value) : Blk ((((w.setCell ⟨g, 0, none⟩ v0).setCell ⟨g, 1, none⟩ v1).setCell ⟨g, 2, none⟩ v2).setCell ⟨g, 3, none⟩ v3) g T #[v0, v1, v2, v3] := by
  have := ((((h.set_ 0 v0).set_ 1 v1).set_ 2 v2).set_ 3 v3)
  simpa only [List.setIfInBounds_toArray, List.set_cons_zero, List.set_cons_succ] using this
theorem Blk.off4 {w : World} {g x : Nat} {T : TypeId} {cur : Array Value} (h : Blk w x T cur) (hne : x ≠ g) (v0 v1 v2 v3 : Value) : Blk ((((w.setCell ⟨g, 0, none⟩ v0).setCell ⟨g, 1, none⟩ v1).setCell ⟨g, 2, none⟩ v2).setCell ⟨g, 3, none⟩ v3) x T cur := ((((h.far (p := ⟨g, 0, none⟩) hne v0).far (p := ⟨g, 1, none⟩) hne v1).far (p := ⟨g, 2, none⟩) hne v2).far (p := ⟨g, 3, none⟩) hne v3)
theorem below_put4 {w w0 : World} {L g : Nat} (h : Below L w0 w) (hg : L ≤ g) (v0 v1 v2 v3 : Value) : Below L w0 ((((w.setCell ⟨g, 0, none⟩ v0).setCell ⟨g, 1, none⟩ v1).setCell ⟨g, 2, none⟩ v2).setCell ⟨g, 3, none⟩ v3) := ((((h.setCell (p := ⟨g, 0, none⟩) hg v0).setCell (p := ⟨g, 1, none⟩) hg v1).setCell (p := ⟨g, 2, none⟩) hg v2).setCell (p := ⟨g, 3, none⟩) hg v3)
theorem Blk.put5 {w : World} {g : Nat} {T : TypeId} {c0 c1 c2 c3 c4 : Value} (h : Blk w g T #[c0, c1, c2, c3, c4]) (v0 v1 v2 v3 v4 : Value) : Blk (((((w.setCell ⟨g, 0, none⟩ v0).setCell ⟨g, 1, none⟩ v1).setCell ⟨g, 2, none⟩ v2).setCell ⟨g, 3, none⟩ v3).setCell ⟨g, 4, none⟩ v4) g T #[v0, v1, v2, v3, v4] := by
  have := (((((h.set_ 0 v0).set_ 1 v1).set_ 2 v2).set_ 3 v3).set_ 4 v4)
  simpa only [List.setIfInBounds_toArray, List.set_cons_zero, List.set_cons_succ] using this
theorem Blk.off5 {w : World} {g x : Nat} {T : TypeId} {cur : Array Value} (h : Blk w x T cur) (hne : x ≠ g) (v0 v1 v2 v3 v4 : Value) : Blk (((((w.setCell ⟨g, 0, none⟩ v0).setCell ⟨g, 1, none⟩ v1).setCell ⟨g, 2, none⟩ v2).setCell ⟨g, 3, none⟩ v3).setCell ⟨g, 4, none⟩ v4) x T cur := (((((h.far (p := ⟨g, 0, none⟩) hne v0).far (p := ⟨g, 1, none⟩) hne v1).far (p := ⟨g, 2, none⟩) hne v2).far (p := ⟨g, 3, none⟩) hne v3).far (p := ⟨g, 4, none⟩) hne v4)
theorem below_put5 {w w0 : World} {L g : Nat} (h : Below L w0 w) (hg : L ≤ g) (v0 v1 v2 v3 v4 : Value) : Below L w0 (((((w.setCell ⟨g, 0, none⟩ v0).setCell ⟨g, 1, none⟩ v1).setCell ⟨g, 2, none⟩ v2).setCell ⟨g, 3, none⟩ v3).setCell ⟨g, 4, none⟩ v4) := (((((h.setCell (p := ⟨g, 0, none⟩) hg v0).setCell (p := ⟨g, 1, none⟩) hg v1).setCell (p := ⟨g, 2, none⟩) hg v2).setCell (p := ⟨g, 3, none⟩) hg v3).setCell (p := ⟨g, 4, none⟩) hg v4)
theorem Blk.put9 {w : World} {g : Nat} {T : TypeId} {c0 c1 c2 c3 c4 c5 c6 c7 c8 : Value} (h : Blk w g T #[c0, c1, c2, c3, c4, c5, c6, c7, c8]) (v0 v1 v2 v3 v4 v5 v6 v7 v8 : Value) : Blk (((((((((w.setCell ⟨g, 0, none⟩ v0).setCell ⟨g, 1, none⟩ v1).setCell ⟨g, 2, none⟩ v2).setCell ⟨g, 3, none⟩ v3).setCell ⟨g, 4, none⟩ v4).setCell ⟨g, 5, none⟩ v5).setCell ⟨g, 6, none⟩ v6).setCell ⟨g, 7, none⟩ v7).setCell ⟨g, 8, none⟩ v8) g T #[v0, v1, v2, v3, v4, v5, v6, v7, v8] := by
  have := (((((((((h.set_ 0 v0).set_ 1 v1).set_ 2 v2).set_ 3 v3).set_ 4 v4).set_ 5 v5).set_ 6 v6).set_ 7 v7).set_ 8 v8)
  simpa only [List.setIfInBounds_toArray, List.set_cons_zero, List.set_cons_succ] using this
theorem Blk.off9 {w : World} {g x : Nat} {T : TypeId} {cur : Array Value} (h : Blk w x T cur) (hne : x ≠ g) (v0 v1 v2 v3 v4 v5 v6 v7 v8 : Value) : Blk (((((((((w.setCell ⟨g, 0, none⟩ v0).setCell ⟨g, 1, none⟩ v1).setCell ⟨g, 2, none⟩ v2).setCell ⟨g, 3, none⟩ v3).setCell ⟨g, 4, none⟩ v4).setCell ⟨g, 5, none⟩ v5).setCell ⟨g, 6, none⟩ v6).setCell ⟨g, 7, none⟩ v7).setCell ⟨g, 8, none⟩ v8) x T cur := (((((((((h.far (p := ⟨g, 0, none⟩) hne v0).far (p := ⟨g, 1, none⟩) hne v1).far (p := ⟨g, 2, none⟩) hne v2).far (p := ⟨g, 3, none⟩) hne v3).far (p := ⟨g, 4, none⟩) hne v4).far (p := ⟨g, 5, none⟩) hne v5).far (p := ⟨g, 6, none⟩) hne v6).far (p := ⟨g, 7, none⟩) hne v7).far (p := ⟨g, 8, none⟩) hne v8)
theorem below_put9 {w w0 : World} {L g : Nat} (h : Below L w0 w) (hg : L ≤ g) (v0 v1 v2 v3 v4 v5 v6 v7 v8 : Value) : Below L w0 (((((((((w.setCell ⟨g, 0, none⟩ v0).setCell ⟨g, 1, none⟩ v1).setCell ⟨g, 2, none⟩ v2).setCell ⟨g, 3, none⟩ v3).setCell ⟨g, 4, none⟩ v4).setCell ⟨g, 5, none⟩ v5).setCell ⟨g, 6, none⟩ v6).setCell ⟨g, 7, none⟩ v7).setCell ⟨g, 8, none⟩ v8) := (((((((((h.setCell (p := ⟨g, 0, none⟩) hg v0).setCell (p := ⟨g, 1, none⟩) hg v1).setCell (p := ⟨g, 2, none⟩) hg v2).setCell (p := ⟨g, 3, none⟩) hg v3).setCell (p := ⟨g, 4, none⟩) hg v4).setCell (p := ⟨g, 5, none⟩) hg v5).setCell (p := ⟨g, 6, none⟩) hg v6).setCell (p := ⟨g, 7, none⟩) hg v7).setCell (p := ⟨g, 8, none⟩) hg v8)
theorem Blk.put10 {w : World} {g : Nat} {T : TypeId} {c0 c1 c2 c3 c4 c5 c6 c7 c8 c9 : Value} (h : Blk w g T #[c0, c1, c2, c3, c4, c5, c6, c7, c8, c9]) (v0 v1 v2 v3 v4 v5 v6 v7 v8 v9 : Value) : Blk ((((((((((w.setCell ⟨g, 0, none⟩ v0).setCell ⟨g, 1, none⟩ v1).setCell ⟨g, 2, none⟩ v2).setCell ⟨g, 3, none⟩ v3).setCell ⟨g, 4, none⟩ v4).setCell ⟨g, 5, none⟩ v5).setCell ⟨g, 6, none⟩ v6).setCell ⟨g, 7, none⟩ v7).setCell ⟨g, 8, none⟩ v8).setCell ⟨g, 9, none⟩ v9) g T #[v0, v1, v2, v3, v4, v5, v6, v7, v8, v9] := by
  have := ((((((((((h.set_ 0 v0).set_ 1 v1).set_ 2 v2).set_ 3 v3).set_ 4 v4).set_ 5 v5).set_ 6 v6).set_ 7 v7).set_ 8 v8).set_ 9 v9)
  simpa only [List.setIfInBounds_toArray, List.set_cons_zero, List.set_cons_succ] using this
theorem Blk.off10 {w : World} {g x : Nat} {T : TypeId} {cur : Array Value} (h : Blk w x T cur) (hne : x ≠ g) (v0 v1 v2 v3 v4 v5 v6 v7 v8 v9 : Value) : Blk ((((((((((w.setCell ⟨g, 0, none⟩ v0).setCell ⟨g, 1, none⟩ v1).setCell ⟨g, 2, none⟩ v2).setCell ⟨g, 3, none⟩ v3).setCell ⟨g, 4, none⟩ v4).setCell ⟨g, 5, none⟩ v5).setCell ⟨g, 6, none⟩ v6).setCell ⟨g, 7, none⟩ v7).setCell ⟨g, 8, none⟩ v8).setCell ⟨g, 9, none⟩ v9) x T cur := ((((((((((h.far (p := ⟨g, 0, none⟩) hne v0).far (p := ⟨g, 1, none⟩) hne v1).far (p := ⟨g, 2, none⟩) hne v2).far (p := ⟨g, 3, none⟩) hne v3).far (p := ⟨g, 4, none⟩) hne v4).far (p := ⟨g, 5, none⟩) hne v5).far (p := ⟨g, 6, none⟩) hne v6).far (p := ⟨g, 7, none⟩) hne v7).far (p := ⟨g, 8, none⟩) hne v8).far (p := ⟨g, 9, none⟩) hne v9)
theorem below_put10 {w w0 : World} {L g : Nat} (h : Below L w0 w) (hg : L ≤ g) (v0 v1 v2 v3 v4 v5 v6 v7 v8 v9 : Value) : Below L w0 ((((((((((w.setCell ⟨g, 0, none⟩ v0).setCell ⟨g, 1, none⟩ v1).setCell ⟨g, 2, none⟩ v2).setCell ⟨g, 3, none⟩ v3).setCell ⟨g, 4, none⟩ v4).setCell ⟨g, 5, none⟩ v5).setCell ⟨g, 6, none⟩ v6).setCell ⟨g, 7, none⟩ v7).setCell ⟨g, 8, none⟩ v8).setCell ⟨g, 9, none⟩ v9) := ((((((((((h.setCell (p := ⟨g, 0, none⟩) hg v0).setCell (p := ⟨g, 1, none⟩) hg v1).setCell (p := ⟨g, 2, none⟩) hg v2).setCell (p := ⟨g, 3, none⟩) hg v3).setCell (p := ⟨g, 4, none⟩) hg v4).setCell (p := ⟨g, 5, none⟩) hg v5).setCell (p := ⟨g, 6, none⟩) hg v6).setCell (p := ⟨g, 7, none⟩) hg v7).setCell (p := ⟨g, 8, none⟩) hg v8).setCell (p := ⟨g, 9, none⟩) hg v9)
theorem Blk.put14 {w : World} {g : Nat} {T : TypeId} {c0 c1 c2 c3 c4 c5 c6 c7 c8 c9 c10 c11 c12 c13 : Value} (h : Blk w g T #[c0, c1, c2, c3, c4, c5, c6, c7, c8, c9, c10, c11, c12, c13]) (v0 v1 v2 v3 v4 v5 v6 v7 v8 v9 v10 v11 v12 v13 : Value) : Blk ((((((((((((((w.setCell ⟨g, 0, none⟩ v0).setCell ⟨g, 1, none⟩ v1).setCell ⟨g, 2, none⟩ v2).setCell ⟨g, 3, none⟩ v3).setCell ⟨g, 4, none⟩ v4).setCell ⟨g, 5, none⟩ v5).setCell ⟨g, 6, none⟩ v6).setCell ⟨g, 7, none⟩ v7).setCell ⟨g, 8, none⟩ v8).setCell ⟨g, 9, none⟩ v9).setCell ⟨g, 10, none⟩ v10).setCell ⟨g, 11, none⟩ v11).setCell ⟨g, 12, none⟩ v12).setCell ⟨g, 13, none⟩ v13) g T #[v0, v1, v2, v3, v4, v5, v6, v7, v8, v9, v10, v11, v12, v13] := by
  have := ((((((((((((((h.set_ 0 v0).set_ 1 v1).set_ 2 v2).set_ 3 v3).set_ 4 v4).set_ 5 v5).set_ 6 v6).set_ 7 v7).set_ 8 v8).set_ 9 v9).set_ 10 v10).set_ 11 v11).set_ 12 v12).set_ 13 v13)
  simpa only [List.setIfInBounds_toArray, List.set_cons_zero, List.set_cons_succ] using this
theorem Blk.off14 {w : World} {g x : Nat} {T : TypeId} {cur : Array Value} (h : Blk w x T cur) (hne : x ≠ g) (v0 v1 v2 v3 v4 v5 v6 v7 v8 v9 v10 v11 v12 v13 : Value) : Blk ((((((((((((((w.setCell ⟨g, 0, none⟩ v0).setCell ⟨g, 1, none⟩ v1).setCell ⟨g, 2, none⟩ v2).setCell ⟨g, 3, none⟩ v3).setCell ⟨g, 4, none⟩ v4).setCell ⟨g, 5, none⟩ v5).setCell ⟨g, 6, none⟩ v6).setCell ⟨g, 7, none⟩ v7).setCell ⟨g, 8, none⟩ v8).setCell ⟨g, 9, none⟩ v9).setCell ⟨g, 10, none⟩ v10).setCell ⟨g, 11, none⟩ v11).setCell ⟨g, 12, none⟩ v12).setCell ⟨g, 13, none⟩ v13) x T cur := ((((((((((((((h.far (p := ⟨g, 0, none⟩) hne v0).far (p := ⟨g, 1, none⟩) hne v1).far (p := ⟨g, 2, none⟩) hne v2).far (p := ⟨g, 3, none⟩) hne v3).far (p := ⟨g, 4, none⟩) hne v4).far (p := ⟨g, 5, none⟩) hne v5).far (p := ⟨g, 6, none⟩) hne v6).far (p := ⟨g, 7, none⟩) hne v7).far (p := ⟨g, 8, none⟩) hne v8).far (p := ⟨g, 9, none⟩) hne v9).far (p := ⟨g, 10, none⟩) hne v10).far (p := ⟨g, 11, none⟩) hne v11).far (p := ⟨g, 12, none⟩) hne v12).far (p := ⟨g, 13, none⟩) hne v13)
theorem below_put14 {w w0 : World} {L g : Nat} (h : Below L w0 w) (hg : L ≤ g) (v0 v1 v2 v3 v4 v5 v6 v7 v8 v9 v10 v11 v12 v13 : Value) : Below L w0 ((((((((((((((w.setCell ⟨g, 0, none⟩ v0).setCell ⟨g, 1, none⟩ v1).setCell ⟨g, 2, none⟩ v2).setCell ⟨g, 3, none⟩ v3).setCell ⟨g, 4, none⟩ v4).setCell ⟨g, 5, none⟩ v5).setCell ⟨g, 6, none⟩ v6).setCell ⟨g, 7, none⟩ v7).setCell ⟨g, 8, none⟩ v8).setCell ⟨g, 9, none⟩ v9).setCell ⟨g, 10, none⟩ v10).setCell ⟨g, 11, none⟩ v11).setCell ⟨g, 12, none⟩ v12).setCell ⟨g, 13, none⟩ v13) := ((((((((((((((h.setCell (p := ⟨g, 0, none⟩) hg v0).setCell (p := ⟨g, 1, none⟩) hg v1).setCell (p := ⟨g, 2, none⟩) hg v2).setCell (p := ⟨g, 3, none⟩) hg v3).setCell (p := ⟨g, 4, none⟩) hg v4).setCell (p := ⟨g, 5, none⟩) hg v5).setCell (p := ⟨g, 6, none⟩) hg v6).setCell (p := ⟨g, 7, none⟩) hg v7).setCell (p := ⟨g, 8, none⟩) hg v8).setCell (p := ⟨g, 9, none⟩) hg v9).setCell (p := ⟨g, 10, none⟩) hg v10).setCell (p := ⟨g, 11, none⟩) hg v11).setCell (p := ⟨g, 12, none⟩) hg v12).setCell (p := ⟨g, 13, none⟩) hg v13)
end Go.Proofs.YtokcbipmocpllaaDoor

/-
  Package hword and its reference.
-/
namespace Go.Proofs.YtokcbipmocpllaaDoor
open Go.RowKit

def hslot (slot : Int) : Int := if slot < 0 ∨ 65535 < slot then 0 else slot
def hmake (tag slot : Int) : Int := tag % 281474976710656 * 65536 + hslot slot
theorem hslot_bound (slot : Int) : 0 ≤ hslot slot ∧ hslot slot ≤ 65535 := by unfold hslot; split <;> omega
theorem hmake_bound (tag slot : Int) : W64 (hmake tag slot) := by
  have := hslot_bound slot
  unfold hmake
  exact ⟨by omega, by omega⟩
theorem hmake_put (tag slot : Int) : fput (hslot slot) 16 48 tag = hmake tag slot := by
  have h := fput_at (hslot slot) tag 16 48 (by omega)
  have b := hslot_bound slot
  unfold hmake
  generalize hslot slot = s at *
  simp at h
  rw [h]
  omega
theorem hget_tag {w : Int} (h : W64 w) : fget w 16 48 = w / 65536 := by
  have h1 := fget_at w 16 48 (by omega)
  obtain ⟨h2, h3⟩ := h
  simp at h1
  rw [h1]
  omega
theorem hget_slot (w : Int) : fget w 0 16 = w % 65536 := by
  have h1 := fget_at w 0 16 (by omega)
  simpa using h1

set_option maxHeartbeats 400000 in
theorem hmake_any (tag slot : Int) (w : World) (ht : W64 tag) (hs : I64 slot) :
    Calls Tryd.prog 100 #[.int .u64 tag, .int .i64 slot] w fun r w' => r = .returned (.int .u64 (hmake tag slot)) ∧ w = w' := by
  have b := hslot_bound slot
  have P := hide (put_any (hslot slot) 16 48 tag w ⟨b.1, by omega⟩ ⟨by omega, by omega⟩ ⟨by omega, by omega⟩ ht)
  rw [hmake_put] at P
  obtain ⟨h0, h1⟩ := hs
  by_cases c0 : slot < 0
  · rw [show hslot slot = 0 from if_pos (.inl c0)] at P
    go_enter Tryd.func100, Tryd.ntmps100
    go_wp2_with fail
    refine P.out.mono ?_
    rintro e w' ⟨rfl, rfl⟩
    go_wp2_with fail
    go_ret
    exact ⟨rfl, rfl⟩
  by_cases c1 : 65535 < slot
  · rw [show hslot slot = 0 from if_pos (.inr c1)] at P
    go_enter Tryd.func100, Tryd.ntmps100
    go_wp2_with fail
    refine P.out.mono ?_
    rintro e w' ⟨rfl, rfl⟩
    go_wp2_with fail
    go_ret
    exact ⟨rfl, rfl⟩
  rw [show hslot slot = slot from if_neg (by omega)] at P
  have c2 : 0 ≤ slot := by omega
  have c3 : slot ≤ 65535 := by omega
  clear c0 c1 b
  go_enter Tryd.func100, Tryd.ntmps100
  go_wp2_with fail
  refine P.out.mono ?_
  rintro e w' ⟨rfl, rfl⟩
  go_wp2_with fail
  go_ret
  exact ⟨rfl, rfl⟩

set_option maxHeartbeats 400000 in
theorem hof_any (x : Int) (w : World) (hx : W64 x) :
    Calls Tryd.prog 96 #[.int .u64 x] w fun r w' => r = .returned (.agg #[.int .u64 (x / 65536), .int .i64 (x % 65536)]) ∧ Below w.heap.size w w' := by
  have T := hide (fun w => get_any x 16 48 w hx ⟨by omega, by omega⟩ ⟨by omega, by omega⟩)
  have Sl := hide (fun w => get_any x 0 16 w hx ⟨by omega, by omega⟩ ⟨by omega, by omega⟩)
  rw [hget_tag hx] at T
  rw [hget_slot] at Sl
  have b1 : 0 ≤ x % 65536 := by omega
  have b2 : x % 65536 < 65536 := by omega
  generalize x % 65536 = s at *
  generalize x / 65536 = t at *
  go_enter Tryd.func96, Tryd.ntmps96
  go_wp2_with fail
  refine (T.out _).mono ?_
  rintro e w' ⟨rfl, rfl⟩
  go_wp2_with fail
  refine (Sl.out _).mono ?_
  rintro e w' ⟨rfl, rfl⟩
  go_wp2_with fail
  refine bodyPost_ret (v := .agg #[.int .u64 t, .int .i64 s]) (by simp [results, Tryd.results96, go_sem]) rfl ⟨rfl, ?_⟩
  exact (Below.refl _ _).alloc (Nat.le_refl _) _

set_option maxHeartbeats 400000 in
theorem htell_slot (x : Int) (w : World) (hx : W64 x) :
    Calls Tryd.prog 83 #[.int .u64 x] w fun r w' => r = .returned (.int .i64 (x % 65536)) ∧ Below w.heap.size w w' := by
  have O := hide (hof_any x w hx)
  generalize x % 65536 = s at *
  generalize x / 65536 = t at *
  have hf : ∀ w : World, (Instr.field 128 (.agg #[.int .u64 t, .int .i64 s]) 1).run Tryd.prog w = .ok (.int .i64 s) w := fun _ => by kernel_rfl
  go_enter Tryd.func83, Tryd.ntmps83
  go_wp2_with fail
  refine O.out.mono ?_
  rintro e w' ⟨rfl, hb⟩
  go_wp2_with fail
  go_ret
  exact ⟨rfl, hb⟩
set_option maxHeartbeats 400000 in
theorem htell_tag (x : Int) (w : World) (hx : W64 x) :
    Calls Tryd.prog 101 #[.int .u64 x] w fun r w' => r = .returned (.int .u64 (x / 65536)) ∧ Below w.heap.size w w' := by
  have O := hide (hof_any x w hx)
  generalize x % 65536 = s at *
  generalize x / 65536 = t at *
  have hf : ∀ w : World, (Instr.field 128 (.agg #[.int .u64 t, .int .i64 s]) 0).run Tryd.prog w = .ok (.int .u64 t) w := fun _ => by kernel_rfl
  go_enter Tryd.func101, Tryd.ntmps101
  go_wp2_with fail
  refine O.out.mono ?_
  rintro e w' ⟨rfl, hb⟩
  go_wp2_with fail
  go_ret
  exact ⟨rfl, hb⟩

def hturn (x slot : Int) : Int := hmake (x / 65536 + 1) slot
theorem hturn_bound (x slot : Int) : W64 (hturn x slot) := hmake_bound _ _
set_option maxHeartbeats 400000 in
theorem hturn_any (x slot : Int) (w : World) (hx : W64 x) (hs : I64 slot) :
    Calls Tryd.prog 95 #[.int .u64 x, .int .i64 slot] w fun r w' => r = .returned (.int .u64 (hturn x slot)) ∧ Below w.heap.size w w' := by
  have O := hide (htell_tag x w hx)
  obtain ⟨h0, h1⟩ := hx
  have M := fun w => hide (hmake_any (x / 65536 + 1) slot w ⟨by omega, by omega⟩ hs)
  have E : Hid (hmake (x / 65536 + 1) slot = hturn x slot) := hide rfl
  have b1 : 0 ≤ x / 65536 := by omega
  have b2 : x / 65536 ≤ 281474976710656 := by omega
  generalize x / 65536 = t at *
  generalize hmake (t + 1) slot = r at *
  go_enter Tryd.func95, Tryd.ntmps95
  go_wp2_with fail
  refine O.out.mono ?_
  rintro e w' ⟨rfl, hb⟩
  go_wp2_with fail
  refine (M _).out.mono ?_
  rintro e w' ⟨rfl, rfl⟩
  go_wp2_with fail
  go_ret
  exact ⟨by rw [← E.out]; rfl, hb⟩

/-! The reference. -/
end Go.Proofs.YtokcbipmocpllaaDoor

