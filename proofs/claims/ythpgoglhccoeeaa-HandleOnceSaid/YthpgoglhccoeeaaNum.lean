/-
  Package num: form, Text, Hex, Int, and the reference's.
-/
import Derived.Test.YthpgoglhccoeeaaMem
import Derived.Test.YthpgoglhccoeeaaPlain
import Derived.Test.YthpgoglhccoeeaaWords
import Derived.Deep.LoopGhost
import Derived.Laws.BytesArg
namespace Go.Proofs.Ythpgoglhccoeeaa
open Go.RowKit

def digC (d : Nat) : Int := if d < 10 then 48 + d else 87 + d
/-- The digits of a number, ahead of others. -/
def formL (b : Nat) : Nat → Nat → List Int → List Int
  | 0, _, acc => acc
  | f + 1, n, acc => if n = 0 then acc else formL b f (n / b) (digC (n % b) :: acc)
def form (b n : Nat) : List Int := if n = 0 then [48] else formL b 64 n []

theorem infoU8 : (Try.prog.info? 5).map (fun i => (i.zero, i.size, i.bytes)) = some (some (.int .u8 0), 1, 1) := by kernel_rfl
theorem ints_one {κ : IntKind} (l : List Int) : ∀ u ∈ ints κ l, u.oneCell' = true := by
  intro u hu
  unfold ints at hu
  obtain ⟨x, _, rfl⟩ := List.mem_map.1 hu
  rfl

theorem own_one (w : World) (v : Value) (lo : Nat) (h : lo ≤ w.heap.size) : (w.alloc (.cells #[v] 5)).ownsRow lo 5 1 (.slice (some ⟨w.heap.size, 0, none⟩) 1 1) 1 [v] :=
  ⟨rfl, .inr ⟨w.heap.size, 1, #[v], rfl, h, heap_alloc_new w _, Nat.le_refl _, by unfold maxLen; omega, rfl, rfl⟩⟩
theorem dig_at (d : Nat) (h : d < 16) : ∀ h', (((⟨#[48, 49, 50, 51, 52, 53, 54, 55, 56, 57, 97, 98, 99, 100, 101, 102]⟩ : ByteArray)[d]'h').toNat : Int) = digC d := by
  intro h'
  match d, h with
  | 0, _ | 1, _ | 2, _ | 3, _ | 4, _ | 5, _ | 6, _ | 7, _ | 8, _ | 9, _ | 10, _ | 11, _ | 12, _ | 13, _ | 14, _ | 15, _ => rfl
  | n + 16, h => omega

theorem conv_own {w : World} {lo m : Nat} {v : Value} {acc : List Int} (h : w.ownsRow lo 5 1 v m (ints .u8 acc)) : (convert 59 9 v).run Try.prog w = .ok (.string (strOfNums acc)) w := by
  have hm : acc.length = m := by have := h.1; rw [ints_len] at this; omega
  subst hm
  rcases h.2 with ⟨rfl, h0⟩ | ⟨g, cap, cur, rfl, _, hg, hc, _, hs, ht⟩
  · have : acc = [] := List.eq_nil_of_length_eq_zero h0
    subst this
    rw [run_convert_bytes_nil w 59 5 Try.underlying59 Try.underlying5 0 0 _ Try.underlying9]
    rfl
  · refine run_convert_bytes_arg w 59 5 Try.underlying59 Try.underlying5 g 0 acc.length cap acc rfl (fun i hi => ?_) _ Try.underlying9
    have h1 := cell_of_row w g i cur 5 (0, 0) hg
    rw [Nat.zero_add, h1]
    have h2 : (ints .u8 acc)[i]? = some (.int .u8 acc[i]) := ints_get acc i hi
    rw [← ht, List.getElem?_take] at h2
    rw [if_pos (by omega)] at h2
    rw [← Array.getElem?_toList, h2]
    simp [List.getD, hi]

def FormIn (b : Nat) (R : List Int) (w : World) (f : Nat) (v0 v5 : Value) (wr : World) : Prop :=
  ∃ (x m : Nat) (acc : List Int), v0 = .int .u64 x ∧ x < 2 ^ f ∧ x < 18446744073709551616 ∧ formL b f x acc = R ∧ m = acc.length ∧ m + f ≤ 64 ∧ wr.ownsRow w.heap.size 5 1 v5 m (ints .u8 acc) ∧ Below w.heap.size w wr

set_option maxHeartbeats 1000000 in
theorem form_any (b n : Nat) (w : World) (hb : b = 10 ∨ b = 16) (hn : n < 18446744073709551616) :
    Calls Try.prog 39 #[.int .u64 n, .int .u64 b] w fun e w' => e = .returned (.string (strOfNums (form b n))) ∧ Below w.heap.size w w' := by
  obtain ⟨i0, hi0, hz0, hs0, hb0⟩ := info_parts infoU8
  by_cases h0 : n = 0
  · subst h0
    have E := hide (show strOfNums (form b 0) = ⟨#[48]⟩ from rfl)
    go_enter Try.func39, Try.ntmps39
    go_wp2_with fail
    go_ret
    exact ⟨by rw [E.out]; rfl, Below.refl _ _⟩
  · have E := hide (show form b n = formL b 64 n [] from if_neg h0)
    have q0 : ((n : Int) == 0) = false := by simp; omega
    go_enter Try.func39, Try.ntmps39
    go_wp2_with fail
    go_loopg [0, 5] 64 (FormIn b (form b n) w)
    case atStart => exact ⟨n, 0, [], rfl, by simpa using hn, hn, E.out.symm, rfl, by omega, World.ownsRow_nil _ _ _ _, Below.refl _ _⟩
    case round =>
      obtain ⟨x, m, acc, rfl, hx1, hx2, hR, hm, hmf, hown, hbl⟩ := hrel
      have HR := hide hR
      have HM := hide hm
      have hsz := hbl.size
      clear hR hm
      by_cases hx : 0 < x
      · obtain ⟨f, rfl⟩ : ∃ f, gk = f + 1 := ⟨gk - 1, by
          rcases gk with _ | g
          · simp at hx1; omega
          · rfl⟩
        have b2 : 2 ≤ b ∧ b ≤ 16 := by omega
        have d1 : x % b < b := Nat.mod_lt _ (by omega)
        have y1 : x / b < 2 ^ f := by
          rw [Nat.pow_succ] at hx1
          exact Nat.div_lt_of_lt_mul (by have := Nat.mul_le_mul_right (2 ^ f) b2.1; omega)
        have y2 : x / b ≤ x := Nat.div_le_self _ _
        have E2 := hide (show formL b f (x / b) (digC (x % b) :: acc) = form b n by rw [← HR.out]; exact (if_neg (by omega)).symm)
        have t1 : (x : Int).tmod (b : Int) = ((x % b : Nat) : Int) := by rw [Int.tmod_eq_emod_of_nonneg (by omega)]; rfl
        have t2 : (x : Int).tdiv (b : Int) = ((x / b : Nat) : Int) := by rw [Int.tdiv_eq_ediv_of_nonneg (by omega)]; rfl
        have hbz : ((b : Int) == 0) = false := by simp; omega
        have hbz2 : ¬ ((b : Int) = 0) := by omega
        have d16 : x % b < 16 := by omega
        clear hx1 HR
        generalize x % b = d at *
        generalize x / b = y at *
        obtain ⟨A, c5, rfl, hr5⟩ := own_reads hown
        have dd := dig_at d d16
        have ho1 := own_one wr (.int .u8 (digC d)) w.heap.size hsz
        have hr6 := hr5.alloc (Nat.le_refl _) (.cells #[.int .u8 (digC d)] 5)
        have hm64 : m ≤ 64 := by omega
        generalize digC d = dc at *
        go_wp2_with (at_builtin; refine wpList_append_any _ rfl (.tmp 14) (.tmp 15) _ rfl w.heap.size 5 i0 _ 1 1 Try.underlying59 hi0 hz0 hs0 hb0 rfl (by omega) _ 1 _ rfl ho1 wr.heap.size A m c5 (ints .u8 acc) rfl hr6 (ints_one _) (by unfold maxLen; omega) (by omega) (by simp; omega) ?_; intro v3 w3 hown3 hg3 hat3)
        have hb3 := below_appended (hbl.alloc hsz _) ho1 hg3 (Nat.le_refl _) (by simp; omega)
        go_roundg f
        case measure => omega
        case rel => exact ⟨y, 1 + m, dc :: acc, rfl, y1, by omega, E2.out, by rw [List.length_cons, ← HM.out]; omega, by omega, hown3, hb3⟩
      · obtain rfl : x = 0 := by omega
        have hR2 : acc = form b n := by
          rw [← HR.out]
          cases gk <;> rfl
        rw [hR2] at hown
        have hcv := conv_own hown
        clear E HR hx1
        go_wp2_with fail
        go_ret
        exact ⟨rfl, hbl⟩
end Go.Proofs.Ythpgoglhccoeeaa
