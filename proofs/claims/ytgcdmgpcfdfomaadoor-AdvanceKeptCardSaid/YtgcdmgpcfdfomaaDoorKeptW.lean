/-
  Words that are written ahead; a copy of words; a slice of writes whose words are words.
-/
import Derived.Test.YtgcdmgpcfdfomaaDoorKeptP
import Derived.Test.YtgcdmgpcfdfomaaDoorRbeg
import Derived.Test.YtgcdmgpcfdfomaaDoorOpenAsk
import Derived.Test.YtgcdmgpcfdfomaaDoorAdvK
namespace Go.Proofs.YtgcdmgpcfdfomaaDoor
open Go.RowKit

structure StopK (p : Prop) : Prop where
  out : p
def wriL (ws : List Int) (l : List (Int × Int)) : Nat → List Int
  | 0 => ws
  | k + 1 => wPut (wriL ws l k) (l.getD k (0, 0)).1 (l.getD k (0, 0)).2
theorem wriL_len (ws : List Int) (l : List (Int × Int)) : ∀ k, (wriL ws l k).length = ws.length
  | 0 => rfl
  | k + 1 => by show (wPut _ _ _).length = _; rw [wPut_len, wriL_len ws l k]
theorem wriL_w64 {ws : List Int} {l : List (Int × Int)} (h : AllW64 ws) (hl : ∀ r ∈ l, W64 r.2) : ∀ k, AllW64 (wriL ws l k)
  | 0 => h
  | k + 1 => by
    refine wPut_w64 (wriL_w64 h hl k) ?_
    rw [List.getD_eq_getElem?_getD]
    by_cases hk : k < l.length
    · rw [List.getElem?_eq_getElem hk]; exact hl _ (List.getElem_mem hk)
    · rw [List.getElem?_eq_none (by omega)]; exact ⟨by decide, by decide⟩
theorem mDo1_w64 {ws : List Int} (h : AllW64 ws) (k a o n : Int) : W64 (mDo ws k a o n).1 := by
  have hg : W64 (wGet ws a) := by
    unfold wGet
    split
    next c =>
      rw [List.getD_eq_getElem?_getD, List.getElem?_eq_getElem (by omega)]
      exact h _ (List.getElem_mem _)
    · exact ⟨by omega, by omega⟩
  unfold mDo
  repeat' split
  all_goals first | exact hg | exact ⟨by omega, by omega⟩
theorem aAsk_w64 {x : Av} (he : W64 x.ep) (hw : W64 x.wd) : W64 (aAsk x).2.2.2 := by
  obtain ⟨h1, h2⟩ := he
  obtain ⟨h3, h4⟩ := hw
  unfold aAsk
  repeat' split
  all_goals exact ⟨by simp only; omega, by simp only; omega⟩
theorem infoU : (Tryd.prog.info? 29).map (fun i => (i.zero, i.size, i.bytes)) = some (some (.int .u64 0), 1, 8) := by kernel_rfl
set_option maxRecDepth 100000 in
set_option maxHeartbeats 4000000 in
theorem copy09_any (g N c : Nat) (ws : List Int) (w : World) (hN : ws.length = N) (hb : N ≤ 1000000) (R : RefOk w g ws) :
    Calls Tryd.prog 9 #[.slice (some ⟨g, 0, none⟩) N c] w fun e w' => (∃ v, e = .returned v ∧ w'.ownsRow w.heap.size 29 1 v N (ints .u64 ws)) ∧ Below w.heap.size w w' := by
  obtain ⟨i0, hi0, hz0, hs0, hb0⟩ := info_parts infoU
  subst hN
  have hrd := Reads.blk (w := w) (g := g) R ws.length 1 (by simp [ints])
  have row := World.ownsRow_lit (base := w.heap.size) (e := 29) (size := 1) w #[] 0 (Nat.le_refl _) (by decide) rfl
  have lg := Blk.lt (w := w) (g := g) R
  replace hrd := hrd.alloc (by omega) (.cells #[] 29)
  have B0 := (Below.refl w.heap.size w).alloc (Nat.le_refl _) (.cells #[] 29)
  have HLN := hide hb
  go_enter Tryd.func9, Tryd.ntmps9
  go_wp2_with (at_builtin; refine StopK.out ?_)
  refine ⟨?_⟩
  refine wpList_append_any _ rfl (.tmp 3) (.tmp 4) _ rfl w.heap.size 29 i0 _ 1 8 Tryd.underlying27 hi0 hz0 hs0 hb0 rfl (by decide) (.slice (some ⟨w.heap.size, 0, none⟩) 0 0) 0 _ (by rfl) row (g + 1) (some ⟨g, 0, none⟩) ws.length c (ints .u64 ws) (by rfl) hrd (ints_oneCell .u64 ws) (by unfold maxLen; have := HLN.out; omega) (by have := HLN.out; omega) B0.size ?_
  intro v9 w5 row5 hg5 _
  have B9 := below_appended B0 row hg5 (Nat.le_refl _) B0.size
  go_wp2_with fail
  go_ret
  exact ⟨⟨_, rfl, by simpa using row5⟩, B9⟩
end Go.Proofs.YtgcdmgpcfdfomaaDoor
