/-
  limbo.parted at uint64 and at api.Record, whatever function value is asked: the elements to which it says yes, and the others.
-/
import Derived.Test.YtenoekfcffkpeaaMem
import Derived.Test.YtenoekfcffkpeaaWords
import Derived.WalkSpells
namespace Go.Proofs.Ytenoekfcffkpeaa
open Go.RowKit

theorem infoU64 : (Try.prog.info? 26).map (fun i => (i.zero, i.size, i.bytes)) = some (some (.int .u64 0), 1, 8) := by kernel_rfl

def PartIn (n : Nat) (l : List Int) (p : Int → Bool) (w : World) (v1 v2 i : Value) (wr : World) : Prop :=
  ∃ (k : Nat) (A1 A2 : Option Addr) (n1 n2 c1 c2 : Nat), i = .int .i64 k ∧ k ≤ n ∧ v1 = .slice A1 n1 c1 ∧ v2 = .slice A2 n2 c2 ∧ Below w.heap.size w wr ∧ n1 = ((l.take k).filter p).length ∧ n2 = ((l.take k).filter (fun x => !p x)).length ∧
    wr.ownsRow w.heap.size 26 1 (.slice A1 n1 c1) n1 (ints .u64 ((l.take k).filter p)) ∧ wr.ownsRow w.heap.size 26 1 (.slice A2 n2 c2) n2 (ints .u64 ((l.take k).filter (fun x => !p x))) ∧
    Apart (.slice A1 n1 c1) (.slice A2 n2 c2)

set_option maxHeartbeats 400000 in
theorem parted_u64 (A : Option Addr) (n c : Nat) (l : List Int) (fid : FuncId) (caps : Array Value) (p : Int → Bool) (w : World) (hl : l.length = n) (hn : n ≤ 1000) (hr : Reads w w.heap.size 1 A n (ints .u64 l))
    (hcf : ∀ args w', (callFunc fid args).run Try.prog w' = .ok (.enter fid args) w')
    (hyes : ∀ x ∈ l, ∀ w', Below w.heap.size w w' → Calls Try.prog fid (#[.int .u64 x] ++ caps) w' fun e w'' => e = .returned (.bool (p x)) ∧ Below w'.heap.size w' w'') :
    Calls Try.prog 21 #[.slice A n c, .func (.func fid) #[] caps] w fun e w' => (∃ A1 n1 c1 A2 n2 c2, e = .returned (.tuple #[.slice A1 n1 c1, .slice A2 n2 c2]) ∧ n1 = (l.filter p).length ∧ n2 = (l.filter (fun x => !p x)).length ∧
      Reads w' w'.heap.size 1 A1 n1 (ints .u64 (l.filter p)) ∧ Reads w' w'.heap.size 1 A2 n2 (ints .u64 (l.filter fun x => !p x))) ∧ Below w.heap.size w w' := by
  obtain ⟨i0, hi0, hz0, hs0, hb0⟩ := info_parts infoU64
  have Hl := hide hl
  have Hy := hide hyes
  clear hl hyes
  go_enter Try.func21, Try.ntmps21
  go_wp2_with fail
  go_loopw [6, 7, 12] (PartIn n l p w) (fun _ _ i _ => n - (intOf i).toNat)
  case atStart => exact ⟨0, none, none, 0, 0, 0, 0, rfl, by omega, rfl, rfl, Below.refl _ _, rfl, rfl, World.ownsRow_nil _ _ _ _, World.ownsRow_nil _ _ _ _, .inl rfl⟩
  case round =>
    obtain ⟨k, A1, A2, n1, n2, c1, c2, rfl, hk, rfl, rfl, hb, hn1, hn2, hown1, hown2, hap⟩ := hrel
    have Hn1 := hide hn1
    have Hn2 := hide hn2
    clear hn1 hn2
    by_cases hlt : k < n
    · obtain ⟨a, rfl, hkl, z1⟩ := (hr.below hb).word hlt
      have Hy1 := hide (Hy.out l[k] (List.getElem_mem hkl))
      have Htk := hide (take_snoc' l k hkl)
      generalize l[k] = x at *
      by_cases hp : p x = true
      · skip
        have Hp := hide hp
        have Hf1 := hide ((congrArg (List.filter p) Htk.out).trans (filter_snoc_yes hp))
        have Hf2 := hide ((congrArg (List.filter fun x => !p x) Htk.out).trans (filter_snoc_no (by simp [hp])))
        clear hp
        have hm1 : n1 ≤ 4294967296 := by rw [Hn1.out]; have := filter_len_take p l k; omega
        have hm2 : n2 ≤ 4294967296 := by rw [Hn2.out]; have := filter_len_take (fun x => !p x) l k; omega
        go_wp2_with fail
        refine (Hy1.out wr hb).mono ?_
        rintro e w2 ⟨rfl, hb2⟩
        rw [Hp.out]
        have hz2 := hb2.size
        have hzw := hb.size
        have hbw := hb.trans (hb2.mono hzw)
        have ho1 := (own_below hown1 hb2).alloc (.cells #[.int .u64 x] 26)
        have ho2 := (own_below hown2 hb2).alloc (.cells #[.int .u64 x] 26)
        go_wp2_with (at_builtin; refine wpList_append_one rfl (.tmp 19) (.tmp 21) _ rfl w.heap.size 26 i0 _ 1 8 Try.underlying33 hi0 hz0 hs0 hb0 rfl (by omega) (by omega) (.slice A1 n1 c1) n1 _ rfl ho1 w2.heap.size #[.int .u64 x] rfl (Blk.new _ _ _) rfl rfl hm1 (by simp; omega) ?_; intro A3 c3 w3 hown3 hg3 hat3)
        have hb3 := below_appended (hbw.alloc (by omega) _) ho1 hg3 (Nat.le_refl _) (by simp; omega)
        go_roundw
        case measure => simp [intOf]; omega
        case rel => exact ⟨k + 1, A3, A2, n1 + 1, n2, c3, c2, by go_num, by omega, rfl, rfl, hb3, by rw [Hf1.out, List.length_append, ← Hn1.out]; rfl, by rw [Hf2.out]; exact Hn2.out, by rw [Hf1.out, ints_append]; exact hown3, by rw [Hf2.out]; exact own_kept ho2 hg3 hap, Apart.grown hap ho2 hat3⟩
      · replace hp : p x = false := by simpa using hp
        have Hp := hide hp
        have Hf1 := hide ((congrArg (List.filter p) Htk.out).trans (filter_snoc_no hp))
        have Hf2 := hide ((congrArg (List.filter fun x => !p x) Htk.out).trans (filter_snoc_yes (by simp [hp])))
        clear hp
        have hm1 : n1 ≤ 4294967296 := by rw [Hn1.out]; have := filter_len_take p l k; omega
        have hm2 : n2 ≤ 4294967296 := by rw [Hn2.out]; have := filter_len_take (fun x => !p x) l k; omega
        go_wp2_with fail
        refine (Hy1.out wr hb).mono ?_
        rintro e w2 ⟨rfl, hb2⟩
        rw [Hp.out]
        have hz2 := hb2.size
        have hzw := hb.size
        have hbw := hb.trans (hb2.mono hzw)
        have ho1 := (own_below hown1 hb2).alloc (.cells #[.int .u64 x] 26)
        have ho2 := (own_below hown2 hb2).alloc (.cells #[.int .u64 x] 26)
        go_wp2_with (at_builtin; refine wpList_append_one rfl (.tmp 23) (.tmp 25) _ rfl w.heap.size 26 i0 _ 1 8 Try.underlying33 hi0 hz0 hs0 hb0 rfl (by omega) (by omega) (.slice A2 n2 c2) n2 _ rfl ho2 w2.heap.size #[.int .u64 x] rfl (Blk.new _ _ _) rfl rfl hm2 (by simp; omega) ?_; intro A3 c3 w3 hown3 hg3 hat3)
        have hb3 := below_appended (hbw.alloc (by omega) _) ho2 hg3 (Nat.le_refl _) (by simp; omega)
        go_roundw
        case measure => simp [intOf]; omega
        case rel => exact ⟨k + 1, A1, A3, n1, n2 + 1, c1, c3, by go_num, by omega, rfl, rfl, hb3, by rw [Hf1.out]; exact Hn1.out, by rw [Hf2.out, List.length_append, ← Hn2.out]; rfl, by rw [Hf1.out]; exact own_kept ho1 hg3 hap.symm, by rw [Hf2.out, ints_append]; exact hown3, (Apart.grown hap.symm ho1 hat3).symm⟩
    · go_wp2_with fail
      go_ret2
      have e : l.take k = l := List.take_of_length_le (by rw [Hl.out]; omega)
      have Hn1' := Hn1.out
      have Hn2' := Hn2.out
      rw [e] at hown1 hown2 Hn1' Hn2'
      exact ⟨⟨A1, n1, c1, A2, n2, c2, rfl, Hn1', Hn2', Reads.of_own hown1, Reads.of_own hown2⟩, hb⟩
end Go.Proofs.Ytenoekfcffkpeaa
