/-
  limbo.Bags: records by their epochs modulo 3.
-/
import Derived.Test.YtenoekfcffkpeaaPast
import Derived.Test.YtenoekfcffkpeaaMem
import Derived.Test.YtenoekfcffkpeaaPlain
import Derived.WalkSpells
import Derived.WalkLawsBesides
import Derived.Deep.RegionLaw
namespace Go.Proofs.Ytenoekfcffkpeaa
open Go.RowKit


structure Bag3 (B : Nat) (w : World) (A : Nat → Option Addr) (c : Nat → Nat) (L : Nat → List (Int × Int)) : Prop where
  own : ∀ j, j < 3 → w.ownsRow B 28 2 (.slice (A j) (L j).length (c j)) (L j).length (rec2 (L j))
  ap : ∀ i j, i < 3 → j < 3 → i ≠ j → Apart (.slice (A i) (L i).length (c i)) (.slice (A j) (L j).length (c j))
def bag (l : List (Int × Int)) (j : Nat) : List (Int × Int) := l.filter fun r => r.2 % 3 == (j : Int)

def upd {α : Type} (v : Nat → α) (i : Nat) (x : α) : Nat → α := fun j => if j = i then x else v j

theorem bag_snoc (l : List (Int × Int)) (r : Int × Int) (i : Nat) (h : r.2 % 3 = i) : bag (l ++ [r]) = upd (bag l) i (bag l i ++ [r]) := by
  funext j
  unfold bag upd
  rw [List.filter_append]
  by_cases hj : j = i
  · subst hj; simp [h]
  · rw [if_neg hj]
    have : (r.2 % 3 == (j : Int)) = false := by rw [beq_eq_false_iff_ne]; omega
    simp [this]

theorem Bag3.step {B : Nat} {w w' : World} {A : Nat → Option Addr} {c : Nat → Nat} {L : Nat → List (Int × Int)} (h : Bag3 B w A c L) (i : Nat) (hi : i < 3) (A1 : Option Addr) (c1 : Nat) (r : Int × Int)
    (hown : w'.ownsRow B 28 2 (.slice A1 ((L i).length + 1) c1) ((L i).length + 1) (rec2 (L i) ++ [.int .u64 r.1, .int .u64 r.2])) (hg : w.grownBy w' (Value.slice (A i) (L i).length (c i)).ownBlock)
    (hat : (Value.slice A1 ((L i).length + 1) c1).ownBlock = (Value.slice (A i) (L i).length (c i)).ownBlock ∨ (Value.slice A1 ((L i).length + 1) c1).ownBlock = some w.heap.size) :
    Bag3 B w' (upd A i A1) (upd c i c1) (upd L i (L i ++ [r])) := by
  refine ⟨fun j hj => ?_, fun j k hj hk hjk => ?_⟩
  · unfold upd
    by_cases e : j = i
    · subst e
      simpa [rec2_append, rec2] using hown
    · simp only [if_neg e]
      exact own_kept (h.own j hj) hg (h.ap i j hi hj (Ne.symm e))
  · unfold upd
    by_cases e : j = i
    · subst e
      simp only [if_true, if_neg (Ne.symm hjk)]
      have := Apart.grown (h.ap j k hi hk hjk) (h.own k hk) hat
      simpa using this
    · simp only [if_neg e]
      by_cases e' : k = i
      · subst e'
        have := (Apart.grown (h.ap k j hi hj (Ne.symm hjk)) (h.own j hj) hat).symm
        simpa using this
      · simp only [if_neg e']
        exact h.ap j k hj hk hjk

theorem Bag3.drew {B : Nat} {w : World} {A c L} (h : Bag3 B w A c L) : Bag3 B w.drew A c L := ⟨fun j hj => (h.own j hj), h.ap⟩
theorem Bag3.alloc {B : Nat} {w : World} {A c L} (h : Bag3 B w A c L) (o : Obj) : Bag3 B (w.alloc o) A c L := ⟨fun j hj => (h.own j hj).alloc o, h.ap⟩
theorem Bag3.far {B : Nat} {w : World} {A c L} (h : Bag3 B w A c L) {p : Addr} (hp : p.block < B) (u : Value) : Bag3 B (w.setCell p u) A c L := ⟨fun j hj => own_setCell_far (h.own j hj) hp u, h.ap⟩

theorem infoRecord : (Try.prog.info? 28).map (fun i => (i.zero, i.size, i.bytes)) = some (some (.agg #[.int .u64 0, .int .u64 0]), 2, 16) := by kernel_rfl



theorem blk2 (wr : World) (a b : Array Value) (t : TypeId) : Blk ((wr.alloc (.cells a t)).alloc (.cells b t)).drew (wr.heap.size + 1) t b := by
  have := Blk.new (wr.alloc (.cells a t)) t b
  simpa using this.drew
def cells3 (A : Nat → Option Addr) (c : Nat → Nat) (L : Nat → List (Int × Int)) : Array Value := #[.slice (A 0) (L 0).length (c 0), .slice (A 1) (L 1).length (c 1), .slice (A 2) (L 2).length (c 2)]

theorem bag_len (l : List (Int × Int)) (j : Nat) : (bag l j).length ≤ l.length := List.length_filter_le _ _

theorem bags_rel {w wr w1 : World} {n k i : Nat} {h0 e0 : Int} {l : List (Int × Int)} {As : Nat → Option Addr} {cs : Nat → Nat} {L : Nat → List (Int × Int)} {A1 : Option Addr} {n1 : Nat} {x y : Array Value} (hi : i < 3) (hb : Below w.heap.size w wr)
    (hB0 : Blk wr w.heap.size 24 #[.slice none 0 0, .slice none 0 0, .slice none 0 0]) (hB1 : Blk wr (w.heap.size + 1) 24 (cells3 As cs L)) (hB3 : Bag3 (w.heap.size + 2) wr As cs L) (hL : bag (l.take k) = L)
    (hl : l.length = n) (hk : k < n) (hlk : l[k]'(by omega) = (h0, e0)) (he : e0 % 3 = i)
    (hown : w1.ownsRow (w.heap.size + 2) 28 2 (.slice A1 ((L i).length + 1) n1) ((L i).length + 1) (rec2 (L i) ++ [.int .u64 h0, .int .u64 e0]))
    (hg : (((wr.alloc (.cells x 28)).alloc (.cells y 28)).drew).grownBy w1 (Value.slice (As i) (L i).length (cs i)).ownBlock)
    (hat : (Value.slice A1 ((L i).length + 1) n1).ownBlock = (Value.slice (As i) (L i).length (cs i)).ownBlock ∨ (Value.slice A1 ((L i).length + 1) n1).ownBlock = some (((wr.alloc (.cells x 28)).alloc (.cells y 28)).drew).heap.size) :
    ∃ (k' : Nat) (As' : Nat → Option Addr) (cs' : Nat → Nat), Value.int .i64 ((k : Int) + 1) = .int .i64 k' ∧ k' ≤ n ∧ Below w.heap.size w (w1.setCell ⟨w.heap.size + 1, i, none⟩ (.slice A1 ((L i).length + 1) n1)) ∧
      Blk (w1.setCell ⟨w.heap.size + 1, i, none⟩ (.slice A1 ((L i).length + 1) n1)) w.heap.size 24 #[.slice none 0 0, .slice none 0 0, .slice none 0 0] ∧
      Blk (w1.setCell ⟨w.heap.size + 1, i, none⟩ (.slice A1 ((L i).length + 1) n1)) (w.heap.size + 1) 24 (cells3 As' cs' (bag (l.take k'))) ∧ Bag3 (w.heap.size + 2) (w1.setCell ⟨w.heap.size + 1, i, none⟩ (.slice A1 ((L i).length + 1) n1)) As' cs' (bag (l.take k')) := by
  have hown0 := ((((hB3.alloc (.cells x 28)).alloc (.cells y 28)).drew).own i hi)
  have hbag : bag (l.take (k + 1)) = upd L i (L i ++ [(h0, e0)]) := by
    rw [take_snoc' l k (by omega), hlk, bag_snoc _ _ i he, hL]
  refine ⟨k + 1, upd As i A1, upd cs i n1, by simp, by omega, ?_, ?_, ?_, ?_⟩
  · refine (below_appended (((hb.alloc hb.size _).alloc (by simp; have := hb.size; omega) _).drew) hown0 hg (by omega) (by simp; have := hb.size; omega)).setCell (by simp) _
  · exact (blk_appended (((hB0.alloc _).alloc _).drew) hown0 hg (by omega)).far (by simp) _
  · have := (blk_appended (((hB1.alloc (.cells x 28)).alloc (.cells y 28)).drew) hown0 hg (by omega)).set_ i (.slice A1 ((L i).length + 1) n1)
    rw [hbag]
    have e : cells3 (upd As i A1) (upd cs i n1) (upd L i (L i ++ [(h0, e0)])) = (cells3 As cs L).setIfInBounds i (.slice A1 ((L i).length + 1) n1) := by
      rcases (by omega : i = 0 ∨ i = 1 ∨ i = 2) with rfl | rfl | rfl <;> simp [cells3, upd]
    rw [e]
    exact this
  · rw [hbag]
    exact (Bag3.step (((hB3.alloc _).alloc _).drew) i hi A1 n1 (h0, e0) hown hg hat).far (by simp) _

theorem bags_end {w wr : World} {l : List (Int × Int)} {As : Nat → Option Addr} {cs : Nat → Nat} (hb : Below w.heap.size w wr) (hB3 : Bag3 (w.heap.size + 2) wr As cs (bag l)) (x y z : Value) :
    Bag3 w.heap.size (((wr.setCell ⟨w.heap.size, 0, none⟩ x).setCell ⟨w.heap.size, 1, none⟩ y).setCell ⟨w.heap.size, 2, none⟩ z) As cs (bag l) ∧
    Below w.heap.size w (((wr.setCell ⟨w.heap.size, 0, none⟩ x).setCell ⟨w.heap.size, 1, none⟩ y).setCell ⟨w.heap.size, 2, none⟩ z) := by
  refine ⟨?_, ((hb.setCell (by simp) _).setCell (by simp) _).setCell (by simp) _⟩
  have h := ((hB3.far (p := ⟨w.heap.size, 0, none⟩) (by simp) x).far (p := ⟨w.heap.size, 1, none⟩) (by simp) y).far (p := ⟨w.heap.size, 2, none⟩) (by simp) z
  exact ⟨fun j hj => own_mono (h.own j hj) (by omega), h.ap⟩

set_option maxHeartbeats 400000 in
theorem Bags_any (A : Option Addr) (n c : Nat) (l : List (Int × Int)) (w : World) (hl : l.length = n) (hn : n ≤ 1000) (hr : Reads w w.heap.size 2 A n (rec2 l))
    (hw : ∀ r ∈ l, 0 ≤ r.2 ∧ r.2 ≤ 18446744073709551615) :
    Calls Try.prog 8 #[.slice A n c] w fun r w' => (∃ As cs, r = .returned (.agg (cells3 As cs (bag l))) ∧ Bag3 w.heap.size w' As cs (bag l)) ∧ Below w.heap.size w w' := by
  obtain ⟨i0, hi0, hz0, hs0, hb0⟩ := info_parts infoRecord
  have Hl := hide hl
  clear hl
  go_enter Try.func8, Try.ntmps8
  go_wp2_with fail
  go_loopw [9] (fun i wr => ∃ (k : Nat) (As : Nat → Option Addr) (cs : Nat → Nat), i = .int .i64 k ∧ k ≤ n ∧ Below w.heap.size w wr ∧ Blk wr w.heap.size 24 #[.slice none 0 0, .slice none 0 0, .slice none 0 0] ∧
     Blk wr (w.heap.size + 1) 24 (cells3 As cs (bag (l.take k))) ∧ Bag3 (w.heap.size + 2) wr As cs (bag (l.take k))) (fun i _ => n - (intOf i).toNat)
  case atStart => 
    refine ⟨0, fun _ => none, fun _ => 0, rfl, by omega, ((Below.refl _ _).alloc (Nat.le_refl _) _).alloc (by simp) _, (Blk.new _ _ _).alloc _, ?_, ?_⟩
    · have := Blk.new (w.alloc (.cells #[.slice none 0 0, .slice none 0 0, .slice none 0 0] 24)) 24 #[.slice none 0 0, .slice none 0 0, .slice none 0 0]
      simpa [cells3, bag] using this
    · exact ⟨fun j hj => by simpa [bag, rec2] using World.ownsRow_nil _ _ _ _, fun _ _ _ _ _ => .inl rfl⟩
  case round =>
    obtain ⟨k, As, cs, rfl, hk, hb, hB0, hB1, hB3⟩ := hrel
    generalize hL : bag (l.take k) = L at *
    have HL := hide hL
    clear hL
    have c0 := hB1.cell 0
    have c1 := hB1.cell 1
    have c2 := hB1.cell 2
    have f0 := hB1.frozen 0
    have f1 := hB1.frozen 1
    have f2 := hB1.frozen 2
    have d0 := hB0.cell 0
    have d1 := hB0.cell 1
    have d2 := hB0.cell 2
    have g0 := hB0.frozen 0
    have g1 := hB0.frozen 1
    have g2 := hB0.frozen 2
    have hz1 := hB1.lt
    have hz0' := hB0.lt
    have HN : Hid (∀ j, (L j).length ≤ 4294967296) := fun j => by
      have h1 := bag_len (l.take k) j
      have h2 : (l.take k).length ≤ k := List.length_take_le _ _
      rw [HL.out] at h1
      omega
    simp [cells3] at c0 c1 c2 d0 d1 d2
    by_cases hlt : k < n
    · have hkl : k < l.length := by rw [Hl.out]; exact hlt
      obtain ⟨h0, e0, HK, he0, he1, a, rfl, x1, x2⟩ : ∃ h e, Hid (l[k] = (h, e)) ∧ 0 ≤ e ∧ e ≤ 18446744073709551615 ∧ ∃ a, A = some a ∧ wr.cell? (a.add (k * 2)) = some (.int .u64 h) ∧ wr.cell? ⟨(a.add (k * 2)).block, (a.add (k * 2)).off + 1, none⟩ = some (.int .u64 e) := by
        obtain ⟨a, ha, _, x1, x2⟩ := (hr.below hb).row hlt
        obtain ⟨y1, y2⟩ := rec2_get l k hkl
        obtain ⟨z1, z2⟩ := hw l[k] (List.getElem_mem hkl)
        exact ⟨_, _, hide rfl, z1, z2, a, ha, (x1 (by omega)).trans y1, (x2 1 (by omega) (by omega)).trans y2⟩
      have hcase : e0 % 3 = 0 ∨ e0 % 3 = 1 ∨ e0 % 3 = 2 := by omega
      rcases hcase with h3 | h3 | h3
      · go_wp2_with fail
        go_region_law ((refine step_append_one rfl (.tmp 19) (.tmp 21) _ rfl (w.heap.size + 2) 28 i0 _ 2 16 Try.underlying22 hi0 hz0 hs0 hb0 rfl (by omega) (by omega) (.slice (As 0) (L 0).length (cs 0)) _ _ rfl (((hB3.own 0 (by omega)).alloc _).alloc _) (wr.heap.size + 1) #[.int .u64 h0, .int .u64 e0] rfl (blk2 _ _ _ _) rfl rfl (HN.out 0) (by simp; omega) ?_; intro A1 n1 w1 hown1 hg1 hat1; have hB1' := blk_appended ((hB1.alloc _).alloc _).drew (((hB3.own 0 (by omega)).alloc (.cells #[.int .u64 h0, .int .u64 e0] 28)).alloc (.cells #[.int .u64 h0, .int .u64 e0] 28)).drew hg1 (by omega); have c0' := hB1'.cell 0; have c1' := hB1'.cell 1; have c2' := hB1'.cell 2; have f0' := hB1'.frozen 0; simp [cells3] at c0' c1' c2'))
        all_goals go_wp2_with fail
        all_goals
          go_roundw
          case measure => simp [intOf]; omega
          case rel => exact bags_rel (by omega) hb hB0 hB1 hB3 HL.out Hl.out hlt (HK.out) h3 hown1 hg1 hat1
      · go_wp2_with fail
        go_region_law ((refine step_append_one rfl (.tmp 19) (.tmp 21) _ rfl (w.heap.size + 2) 28 i0 _ 2 16 Try.underlying22 hi0 hz0 hs0 hb0 rfl (by omega) (by omega) (.slice (As 1) (L 1).length (cs 1)) _ _ rfl (((hB3.own 1 (by omega)).alloc _).alloc _) (wr.heap.size + 1) #[.int .u64 h0, .int .u64 e0] rfl (blk2 _ _ _ _) rfl rfl (HN.out 1) (by simp; omega) ?_; intro A1 n1 w1 hown1 hg1 hat1; have hB1' := blk_appended ((hB1.alloc _).alloc _).drew (((hB3.own 1 (by omega)).alloc (.cells #[.int .u64 h0, .int .u64 e0] 28)).alloc (.cells #[.int .u64 h0, .int .u64 e0] 28)).drew hg1 (by omega); have c0' := hB1'.cell 0; have c1' := hB1'.cell 1; have c2' := hB1'.cell 2; have f0' := hB1'.frozen 1; simp [cells3] at c0' c1' c2'))
        all_goals go_wp2_with fail
        all_goals
          go_roundw
          case measure => simp [intOf]; omega
          case rel => exact bags_rel (by omega) hb hB0 hB1 hB3 HL.out Hl.out hlt (HK.out) h3 hown1 hg1 hat1
      · go_wp2_with fail
        go_region_law ((refine step_append_one rfl (.tmp 19) (.tmp 21) _ rfl (w.heap.size + 2) 28 i0 _ 2 16 Try.underlying22 hi0 hz0 hs0 hb0 rfl (by omega) (by omega) (.slice (As 2) (L 2).length (cs 2)) _ _ rfl (((hB3.own 2 (by omega)).alloc _).alloc _) (wr.heap.size + 1) #[.int .u64 h0, .int .u64 e0] rfl (blk2 _ _ _ _) rfl rfl (HN.out 2) (by simp; omega) ?_; intro A1 n1 w1 hown1 hg1 hat1; have hB1' := blk_appended ((hB1.alloc _).alloc _).drew (((hB3.own 2 (by omega)).alloc (.cells #[.int .u64 h0, .int .u64 e0] 28)).alloc (.cells #[.int .u64 h0, .int .u64 e0] 28)).drew hg1 (by omega); have c0' := hB1'.cell 0; have c1' := hB1'.cell 1; have c2' := hB1'.cell 2; have f0' := hB1'.frozen 2; simp [cells3] at c0' c1' c2'))
        all_goals go_wp2_with fail
        all_goals
          go_roundw
          case measure => simp [intOf]; omega
          case rel => exact bags_rel (by omega) hb hB0 hB1 hB3 HL.out Hl.out hlt (HK.out) h3 hown1 hg1 hat1
    · go_wp2_with fail
      have hkn : k = n := by omega
      have e : L = bag l := by rw [← HL.out, List.take_of_length_le (by rw [Hl.out]; omega)]
      have hend := bags_end hb (e ▸ hB3)
      refine bodyPost_ret (v := .agg (cells3 As cs L)) (by simp [results, Try.results8, go_sem, cells3, d0, d1, d2]) rfl ?_
      exact ⟨⟨As, cs, by rw [e], (hend _ _ _).1⟩, (hend _ _ _).2⟩
end Go.Proofs.Ytenoekfcffkpeaa
