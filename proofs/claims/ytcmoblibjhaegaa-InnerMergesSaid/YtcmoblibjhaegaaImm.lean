/-
  inner.Merge.
-/
import Derived.Test.YtcmoblibjhaegaaIm
namespace Go.Proofs.Ytcmoblibjhaegaa
open Go.RowKit

/-- A node in a block. -/
def NodeOut (g lo : Nat) (xs ys : List Int) (l : Int) (w' : World) : Prop :=
  ∃ k1 u1, Blk w' g 27 #[.bool true, k1, u1, .int .u64 l] ∧ NdO w' lo (.agg #[.bool true, k1, u1, .int .u64 l]) true xs ys l
theorem NodeOut.set_ {go lo g : Nat} {xs ys : List Int} {l : Int} {w' : World} (h : NodeOut go lo xs ys l w') {x y : Value} (hb : Blk w' g 4 #[x]) : NodeOut go lo xs ys l (w'.setCell ⟨g, 0, none⟩ y) := by
  obtain ⟨k1, u1, h1, h4⟩ := h
  exact ⟨k1, u1, h1.far (p := ⟨g, 0, none⟩) (h1.ne_ hb (by decide)) _, h4.set_blk hb (by decide) _ _⟩
theorem NodeOut.mono {go lo lo' : Nat} {xs ys : List Int} {l : Int} {w' : World} (h : NodeOut go lo xs ys l w') (hl : lo' ≤ lo) : NodeOut go lo' xs ys l w' := by
  obtain ⟨k1, u1, h1, h4⟩ := h
  exact ⟨k1, u1, h1, h4.mono hl⟩
theorem both_wrong (v v' : Value) (b b' : Bool) (ks vs ks' vs' : List Int) (l l' key : Int) (w : World) (hl : ks.length ≤ 1000) (hl' : ks'.length ≤ 1000) (h : Nd w w.heap.size v b ks vs l) (h' : Nd w w.heap.size v' b' ks' vs' l') (hno : (rightI b ks vs && rightI b' ks' vs' && rightI true (ks ++ key :: ks') (vs ++ vs')) = false) :
    Calls Try.prog 35 #[v, .int .u64 key, v'] w fun e w' => e = .panicked wrongP ∧ Below w.heap.size w w' := by
  cases h1 : rightI b ks vs with
  | false => exact both_no1 v v' b b' ks vs ks' vs' l l' key w hl hl' h h' h1
  | true =>
    cases h2 : rightI b' ks' vs' with
    | false => exact both_no2 v v' b b' ks vs ks' vs' l l' key w hl hl' h h' h1 h2
    | true =>
      rw [h1, h2] at hno
      exact both_no v v' b b' ks vs ks' vs' l l' key w hl hl' h h' h1 h2 (by simpa using hno)
set_option maxRecDepth 100000 in
set_option maxHeartbeats 4000000 in
theorem merge1_yes (b b' : Bool) (A A' E E' : Option Addr) (c c' f f' : Nat) (ks vs ks' vs' : List Int) (l l' key : Int) (gx gk gy go : Nat) (w : World) (hl : ks.length ≤ 1000) (hl' : ks'.length ≤ 1000) (h : Nd w w.heap.size (.agg #[.bool b, .slice A ks.length c, .slice A' vs.length c', .int .u64 l]) b ks vs l) (h' : Nd w w.heap.size (.agg #[.bool b', .slice E ks'.length f, .slice E' vs'.length f', .int .u64 l']) b' ks' vs' l') (bx : Blk w gx 27 #[.bool b, .slice A ks.length c, .slice A' vs.length c', .int .u64 l]) (bk : Blk w gk 22 #[.int .u64 key]) (by_ : Blk w gy 27 #[.bool b', .slice E ks'.length f, .slice E' vs'.length f', .int .u64 l']) (bo : Blk w go 27 #[.bool false, .slice none 0 0, .slice none 0 0, .int .u64 0]) (h1 : rightI b ks vs = true) (h2 : rightI b' ks' vs' = true) (h3 : rightI true (ks ++ key :: ks') (vs ++ vs') = true) :
    Calls Try.prog 34 #[.pointer (some ⟨gx, 0, none⟩), .pointer (some ⟨gk, 0, none⟩), .pointer (some ⟨gy, 0, none⟩), .pointer (some ⟨go, 0, none⟩)] w fun e w' => e = .returned (.tuple #[]) ∧ Part [go] w w' ∧ NodeOut go w.heap.size (ks ++ key :: ks') (vs ++ vs') l w' := by
  have Bt := hide (both_yes _ _ b b' ks vs ks' vs' l l' key w hl hl' h h' h1 h2 h3)
  clear h h' h1 h2 h3 hl hl'
  generalize ks.length = n at *
  generalize vs.length = m at *
  generalize ks'.length = n' at *
  generalize vs'.length = m' at *
  obtain ⟨y1, hy1⟩ : ∃ y, y = ks ++ key :: ks' := ⟨_, rfl⟩
  obtain ⟨y2, hy2⟩ : ∃ y, y = vs ++ vs' := ⟨_, rfl⟩
  rw [← hy1, ← hy2] at Bt ⊢
  clear hy1 hy2
  have mx := fun i => bx.cell i
  have my := fun i => by_.cell i
  have mk := fun i => bk.cell i
  go_enter Try.func34, Try.ntmps34
  go_wp2_with fail
  refine Bt.out.mono ?_
  rintro e w1 ⟨⟨u, rfl, N⟩, hb1⟩
  replace bo := bo.below hb1 bo.lt
  obtain ⟨A1, d1, A2, d2, rfl⟩ := N.val
  clear mx my mk bx by_ bk Bt
  have mo := fun i => bo.cell i
  have zo := fun i => bo.frozen i
  go_wp2_with fail
  go_end0
  exact ⟨rfl, (Part.of_below hb1).setN (by simp) _ _ _ _, _, _, bo.setN _ _ _ _, N.setN bo _ _ _ _⟩
set_option maxRecDepth 100000 in
set_option maxHeartbeats 4000000 in
theorem merge1_no (b b' : Bool) (A A' E E' : Option Addr) (c c' f f' : Nat) (ks vs ks' vs' : List Int) (l l' key : Int) (gx gk gy go : Nat) (w : World) (hl : ks.length ≤ 1000) (hl' : ks'.length ≤ 1000) (h : Nd w w.heap.size (.agg #[.bool b, .slice A ks.length c, .slice A' vs.length c', .int .u64 l]) b ks vs l) (h' : Nd w w.heap.size (.agg #[.bool b', .slice E ks'.length f, .slice E' vs'.length f', .int .u64 l']) b' ks' vs' l') (bx : Blk w gx 27 #[.bool b, .slice A ks.length c, .slice A' vs.length c', .int .u64 l]) (bk : Blk w gk 22 #[.int .u64 key]) (by_ : Blk w gy 27 #[.bool b', .slice E ks'.length f, .slice E' vs'.length f', .int .u64 l']) (hno : (rightI b ks vs && rightI b' ks' vs' && rightI true (ks ++ key :: ks') (vs ++ vs')) = false) :
    Calls Try.prog 34 #[.pointer (some ⟨gx, 0, none⟩), .pointer (some ⟨gk, 0, none⟩), .pointer (some ⟨gy, 0, none⟩), .pointer (some ⟨go, 0, none⟩)] w fun e w' => e = .panicked wrongP ∧ Below w.heap.size w w' := by
  have Bt := hide (both_wrong _ _ b b' ks vs ks' vs' l l' key w hl hl' h h' hno)
  clear h h' hno hl hl'
  generalize ks.length = n at *
  generalize vs.length = m at *
  generalize ks'.length = n' at *
  generalize vs'.length = m' at *
  have mx := fun i => bx.cell i
  have my := fun i => by_.cell i
  have mk := fun i => bk.cell i
  go_enter Try.func34, Try.ntmps34
  go_wp2_with fail
  refine Bt.out.mono ?_
  rintro e w1 ⟨rfl, hb1⟩
  go_wp2_with fail
  exact ⟨rfl, rfl, hb1⟩
set_option maxRecDepth 100000 in
set_option maxHeartbeats 4000000 in
theorem imerge_yes (v v' : Value) (b b' : Bool) (ks vs ks' vs' : List Int) (l l' key : Int) (w : World) (hl : ks.length ≤ 1000) (hl' : ks'.length ≤ 1000) (h : Nd w w.heap.size v b ks vs l) (h' : Nd w w.heap.size v' b' ks' vs' l') (h1 : rightI b ks vs = true) (h2 : rightI b' ks' vs' = true) (h3 : rightI true (ks ++ key :: ks') (vs ++ vs') = true) :
    Calls Try.prog 15 #[v, .int .u64 key, v'] w fun e w' => (∃ u, e = .returned u ∧ NdO w' w.heap.size u true (ks ++ key :: ks') (vs ++ vs') l) ∧ Below w.heap.size w w' := by
  have hmf : ∀ (fn : Fn) (first cap : Array Value) (w : World), (Instr.makeFunc fn first cap).run Try.prog w = .ok (.func fn first cap) w := fun _ _ _ _ => rfl
  obtain ⟨A, c, A', c', rfl⟩ := ValN w b ks vs l v h
  obtain ⟨E, f, E', f', rfl⟩ := ValN w b' ks' vs' l' v' h'
  have bx := (((Blk.new w 27 #[.bool b, .slice A ks.length c, .slice A' vs.length c', .int .u64 l]).alloc (.cells #[.int .u64 key] 22)).alloc (.cells #[.bool b', .slice E ks'.length f, .slice E' vs'.length f', .int .u64 l'] 27)).alloc (.cells #[.bool false, .slice none 0 0, .slice none 0 0, .int .u64 0] 27)
  have bk := ((Blk.new (w.alloc (.cells #[.bool b, .slice A ks.length c, .slice A' vs.length c', .int .u64 l] 27)) 22 #[.int .u64 key]).alloc (.cells #[.bool b', .slice E ks'.length f, .slice E' vs'.length f', .int .u64 l'] 27)).alloc (.cells #[.bool false, .slice none 0 0, .slice none 0 0, .int .u64 0] 27)
  have by_ := (Blk.new ((w.alloc (.cells #[.bool b, .slice A ks.length c, .slice A' vs.length c', .int .u64 l] 27)).alloc (.cells #[.int .u64 key] 22)) 27 #[.bool b', .slice E ks'.length f, .slice E' vs'.length f', .int .u64 l']).alloc (.cells #[.bool false, .slice none 0 0, .slice none 0 0, .int .u64 0] 27)
  have bo := Blk.new (((w.alloc (.cells #[.bool b, .slice A ks.length c, .slice A' vs.length c', .int .u64 l] 27)).alloc (.cells #[.int .u64 key] 22)).alloc (.cells #[.bool b', .slice E ks'.length f, .slice E' vs'.length f', .int .u64 l'] 27)) 27 #[.bool false, .slice none 0 0, .slice none 0 0, .int .u64 0]
  have hb := ((((Below.refl w.heap.size w).alloc (Nat.le_refl _) (.cells #[.bool b, .slice A ks.length c, .slice A' vs.length c', .int .u64 l] 27)).alloc (by simp only [World.size_alloc]; omega) (.cells #[.int .u64 key] 22)).alloc (by simp only [World.size_alloc]; omega) (.cells #[.bool b', .slice E ks'.length f, .slice E' vs'.length f', .int .u64 l'] 27)).alloc (by simp only [World.size_alloc]; omega) (.cells #[.bool false, .slice none 0 0, .slice none 0 0, .int .u64 0] 27)
  simp only [World.size_alloc] at bk by_ bo
  go_enter Try.func15, Try.ntmps15
  go_wp2_with fail
  generalize (((w.alloc (.cells #[.bool b, .slice A ks.length c, .slice A' vs.length c', .int .u64 l] 27)).alloc (.cells #[.int .u64 key] 22)).alloc (.cells #[.bool b', .slice E ks'.length f, .slice E' vs'.length f', .int .u64 l'] 27)).alloc (.cells #[.bool false, .slice none 0 0, .slice none 0 0, .int .u64 0] 27) = w2 at *
  obtain ⟨gx, ex⟩ : ∃ g, g = w.heap.size := ⟨_, rfl⟩
  obtain ⟨gk, ek⟩ : ∃ g, g = w.heap.size + 1 := ⟨_, rfl⟩
  obtain ⟨gy, ey⟩ : ∃ g, g = w.heap.size + 1 + 1 := ⟨_, rfl⟩
  obtain ⟨go, eo⟩ : ∃ g, g = w.heap.size + 1 + 1 + 1 := ⟨_, rfl⟩
  rw [← eo] at bo
  rw [← ey] at by_
  rw [← ek] at bk
  rw [← ex] at bx
  have HGO := hide (show w.heap.size ≤ go by omega)
  have T1 := hide (tried_part 34 #[.pointer (some ⟨gx, 0, none⟩), .pointer (some ⟨gk, 0, none⟩), .pointer (some ⟨gy, 0, none⟩), .pointer (some ⟨go, 0, none⟩)] [go] (NodeOut go w2.heap.size (ks ++ key :: ks') (vs ++ vs') l) w2 (fun _ => by rfl)
    (by intro o ho; simp at ho; subst ho; exact bo.lt) (fun w' b hb hs => hs.set_ hb)
    (fun w1 hB _ => (merge1_yes b b' A A' E E' c c' f f' ks vs ks' vs' l l' key gx gk gy go w1 hl hl' (((h.below hb).below (hB.mono hb.size)).more (Nat.le_trans hb.size hB.size)) (((h'.below hb).below (hB.mono hb.size)).more (Nat.le_trans hb.size hB.size)) (bx.below hB bx.lt) (bk.below hB bk.lt) (by_.below hB by_.lt) (bo.below hB bo.lt) h1 h2 h3).mono (fun e w' hh => ⟨hh.1, hh.2.1, hh.2.2.mono hB.size⟩)))
  rw [← eo, ← ey, ← ek, ← ex]
  have HLO := hide hb.size
  clear bx bk by_ h h' h1 h2 h3 hl hl'
  obtain ⟨y1, hy1⟩ : ∃ y, y = ks ++ key :: ks' := ⟨_, rfl⟩
  obtain ⟨y2, hy2⟩ : ∃ y, y = vs ++ vs' := ⟨_, rfl⟩
  rw [← hy1, ← hy2] at T1
  have HY1 := hide hy1
  have HY2 := hide hy2
  clear hy1 hy2
  refine T1.out.mono ?_
  rintro e w3 ⟨rfl, hp, k1, u1, bo3, N⟩
  have hb3 := Part.below_trans hb hp (by intro o ho; simp at ho; subst ho; exact HGO.out) (by omega)
  obtain ⟨A1, d1, A2, d2, e1⟩ := N.val
  simp only [Value.agg.injEq, Array.mk.injEq, List.cons.injEq, and_true, true_and] at e1
  obtain ⟨rfl, rfl⟩ := e1
  clear T1 hp bo hb ex ek ey eo
  have mo := fun i => bo3.cell i
  have zo := fun i => bo3.frozen i
  go_wp2_with fail
  have b9 := bo3.setN (.bool true) (.slice A1 y1.length d1) (.slice A2 y2.length d2) (.int .u64 l)
  have B9 := below_setN hb3 (g := go) HGO.out (.bool true) (.slice A1 y1.length d1) (.slice A2 y2.length d2) (.int .u64 l)
  have N9 := (N.setN bo3 (.bool true) (.slice A1 y1.length d1) (.slice A2 y2.length d2) (.int .u64 l)).mono HLO.out
  have m9 := fun i => b9.cell i
  refine bodyPost_ret (v := .agg #[.bool true, .slice A1 y1.length d1, .slice A2 y2.length d2, .int .u64 l]) (by simp [results, Try.results15, go_sem, m9]) rfl ⟨⟨_, rfl, ?_⟩, B9⟩
  rw [← HY1.out, ← HY2.out]
  exact N9
set_option maxRecDepth 100000 in
set_option maxHeartbeats 4000000 in
theorem imerge_no (v v' : Value) (b b' : Bool) (ks vs ks' vs' : List Int) (l l' key : Int) (w : World) (hl : ks.length ≤ 1000) (hl' : ks'.length ≤ 1000) (h : Nd w w.heap.size v b ks vs l) (h' : Nd w w.heap.size v' b' ks' vs' l') (hno : (rightI b ks vs && rightI b' ks' vs' && rightI true (ks ++ key :: ks') (vs ++ vs')) = false) :
    Calls Try.prog 15 #[v, .int .u64 key, v'] w fun e w' => e = .returned (.agg #[.bool false, .slice none 0 0, .slice none 0 0, .int .u64 0]) ∧ Below w.heap.size w w' := by
  have hmf : ∀ (fn : Fn) (first cap : Array Value) (w : World), (Instr.makeFunc fn first cap).run Try.prog w = .ok (.func fn first cap) w := fun _ _ _ _ => rfl
  obtain ⟨A, c, A', c', rfl⟩ := ValN w b ks vs l v h
  obtain ⟨E, f, E', f', rfl⟩ := ValN w b' ks' vs' l' v' h'
  have bx := (((Blk.new w 27 #[.bool b, .slice A ks.length c, .slice A' vs.length c', .int .u64 l]).alloc (.cells #[.int .u64 key] 22)).alloc (.cells #[.bool b', .slice E ks'.length f, .slice E' vs'.length f', .int .u64 l'] 27)).alloc (.cells #[.bool false, .slice none 0 0, .slice none 0 0, .int .u64 0] 27)
  have bk := ((Blk.new (w.alloc (.cells #[.bool b, .slice A ks.length c, .slice A' vs.length c', .int .u64 l] 27)) 22 #[.int .u64 key]).alloc (.cells #[.bool b', .slice E ks'.length f, .slice E' vs'.length f', .int .u64 l'] 27)).alloc (.cells #[.bool false, .slice none 0 0, .slice none 0 0, .int .u64 0] 27)
  have by_ := (Blk.new ((w.alloc (.cells #[.bool b, .slice A ks.length c, .slice A' vs.length c', .int .u64 l] 27)).alloc (.cells #[.int .u64 key] 22)) 27 #[.bool b', .slice E ks'.length f, .slice E' vs'.length f', .int .u64 l']).alloc (.cells #[.bool false, .slice none 0 0, .slice none 0 0, .int .u64 0] 27)
  have bo := Blk.new (((w.alloc (.cells #[.bool b, .slice A ks.length c, .slice A' vs.length c', .int .u64 l] 27)).alloc (.cells #[.int .u64 key] 22)).alloc (.cells #[.bool b', .slice E ks'.length f, .slice E' vs'.length f', .int .u64 l'] 27)) 27 #[.bool false, .slice none 0 0, .slice none 0 0, .int .u64 0]
  have hb := ((((Below.refl w.heap.size w).alloc (Nat.le_refl _) (.cells #[.bool b, .slice A ks.length c, .slice A' vs.length c', .int .u64 l] 27)).alloc (by simp only [World.size_alloc]; omega) (.cells #[.int .u64 key] 22)).alloc (by simp only [World.size_alloc]; omega) (.cells #[.bool b', .slice E ks'.length f, .slice E' vs'.length f', .int .u64 l'] 27)).alloc (by simp only [World.size_alloc]; omega) (.cells #[.bool false, .slice none 0 0, .slice none 0 0, .int .u64 0] 27)
  simp only [World.size_alloc] at bk by_ bo
  go_enter Try.func15, Try.ntmps15
  go_wp2_with fail
  generalize (((w.alloc (.cells #[.bool b, .slice A ks.length c, .slice A' vs.length c', .int .u64 l] 27)).alloc (.cells #[.int .u64 key] 22)).alloc (.cells #[.bool b', .slice E ks'.length f, .slice E' vs'.length f', .int .u64 l'] 27)).alloc (.cells #[.bool false, .slice none 0 0, .slice none 0 0, .int .u64 0] 27) = w2 at *
  obtain ⟨gx, ex⟩ : ∃ g, g = w.heap.size := ⟨_, rfl⟩
  obtain ⟨gk, ek⟩ : ∃ g, g = w.heap.size + 1 := ⟨_, rfl⟩
  obtain ⟨gy, ey⟩ : ∃ g, g = w.heap.size + 1 + 1 := ⟨_, rfl⟩
  obtain ⟨go, eo⟩ : ∃ g, g = w.heap.size + 1 + 1 + 1 := ⟨_, rfl⟩
  rw [← eo] at bo
  rw [← ey] at by_
  rw [← ek] at bk
  rw [← ex] at bx
  have HGO := hide (show w.heap.size ≤ go by omega)
  have T1 := hide (tried_wrong 34 #[.pointer (some ⟨gx, 0, none⟩), .pointer (some ⟨gk, 0, none⟩), .pointer (some ⟨gy, 0, none⟩), .pointer (some ⟨go, 0, none⟩)] w2 (fun _ => by rfl) (fun w1 hB => merge1_no b b' A A' E E' c c' f f' ks vs ks' vs' l l' key gx gk gy go w1 hl hl' (((h.below hb).below (hB.mono hb.size)).more (Nat.le_trans hb.size hB.size)) (((h'.below hb).below (hB.mono hb.size)).more (Nat.le_trans hb.size hB.size)) (bx.below hB bx.lt) (bk.below hB bk.lt) (by_.below hB by_.lt) hno))
  rw [← eo, ← ey, ← ek, ← ex]
  clear bx bk by_ h h' hno hl hl'
  refine T1.out.mono ?_
  rintro e w3 ⟨rfl, hb1⟩
  replace bo := bo.below hb1 bo.lt
  replace hb := hb.trans (hb1.mono hb.size)
  clear T1 hb1 ex ek ey eo
  have mo := fun i => bo.cell i
  have zo := fun i => bo.frozen i
  go_wp2_with fail
  have b9 := bo.setN (.bool false) (.slice none 0 0) (.slice none 0 0) (.int .u64 0)
  have B9 := below_setN hb (g := go) HGO.out (.bool false) (.slice none 0 0) (.slice none 0 0) (.int .u64 0)
  have m9 := fun i => b9.cell i
  exact bodyPost_ret (v := .agg #[.bool false, .slice none 0 0, .slice none 0 0, .int .u64 0]) (by simp [results, Try.results15, go_sem, m9]) rfl ⟨rfl, B9⟩
end Go.Proofs.Ytcmoblibjhaegaa
