/-
  ArenaTells holds, as a card: wherever the two listed variables start as the program's text lays them, its Go function returns true for every input and leaves its arguments as they were.
-/
import Derived.Test.YtegldbhabeoboaaDoorW1
namespace Go.Proofs.YtegldbhabeoboaaDoor
open Go.ChangeShapes Go.WideShapes Go.ChangeAt Go.RowKit Go.Deep

section
variable {H : Type} {enc : TypeId × Value → H} {w : World} {spare : Nat → Bool} {held : Bool} {base : Nat}
set_option maxRecDepth 100000 in
/-- A slice of writes. -/
theorem open_wris64 {B b0 : Nat} {v : Value} {d : DataW H} {ps : List MemPlace}
    (hv : Value.okWide Tryd.prog w .any b0 24 v) (h : DataW.Trod enc Tryd.prog w base spare held 24 v d ps) (hlt : ∀ p ∈ ps, p.block < B) (hsp : ∀ a, spare a = true) :
    ∃ A len cap l, v = .slice A len cap ∧ len ≤ cap ∧ cap ≤ maxLen ∧ l.length = len ∧ Reads w B 2 A len (recW l) ∧ ∀ r ∈ l, W64 r.2 := by
  obtain ⟨A, len, cap, rows, hv, h1, h2, h3, h4, h5⟩ := open_rows (s := 2) Tryd.underlying24 (by kernel_rfl) (by omega) hv h hlt hsp (fun cs => cs.length = 2 → ∃ a n, cs = [.int .i64 a, .int .u64 n] ∧ W64 n) (fun n cs' z hy _ hl => by
    match cs', hl with
    | [x0, x1], _ =>
      obtain ⟨y0, n0, z0, e0, g0⟩ := fld Tryd.underlying35 (by kernel_rfl) rfl hy 0 _ rfl
      obtain ⟨y1, n1, z1, e1, g1⟩ := fld Tryd.underlying35 (by kernel_rfl) rfl hy 1 _ rfl
      obtain ⟨a, h1', _, w1⟩ := DataW.trod_int Tryd.underlying3 g0
      obtain ⟨o, h2', _, w2⟩ := DataW.trod_int Tryd.underlying32 g1
      simp at e0 e1 h1' h2'
      exact ⟨a, o, by rw [e0, e1, h1', h2'], W64.of_wf w2⟩)
  have key : ∀ rows : List (List Value), (∀ r ∈ rows, r.length = 2 ∧ (r.length = 2 → ∃ a n, r = [Value.int .i64 a, .int .u64 n] ∧ W64 n)) → ∃ l : List (Int × Int), l.length = rows.length ∧ recW l = rows.flatten ∧ ∀ r ∈ l, W64 r.2 := by
    intro rows
    induction rows with
    | nil => intro _; exact ⟨[], rfl, rfl, by simp⟩
    | cons r rows ih =>
      intro h
      obtain ⟨l, e1, e2, e3⟩ := ih (fun r hr => h r (by simp [hr]))
      obtain ⟨h1, h2⟩ := h r (by simp)
      obtain ⟨k, a, rfl, h3⟩ := h2 h1
      exact ⟨(k, a) :: l, by simp [e1], by simp [← e2, recW], fun r hr => by
        rcases List.mem_cons.1 hr with rfl | hr
        · exact h3
        · exact e3 r hr⟩
  obtain ⟨l, e1, e2, e3⟩ := key rows h5
  exact ⟨A, len, cap, l, hv, h1, h2, by omega, by rw [e2]; exact h4, e3⟩
end

set_option maxRecDepth 100000 in
set_option maxHeartbeats 2000000 in
theorem tells_far (s t f l p k : Int) (A : Option Addr) (n c : Nat) (w : World) (hT : Tab w) (h1 : (300 : Int) < n) :
    Calls Tryd.prog 3 #[.agg #[.int .i64 s, .int .i64 t, .int .i64 f, .int .i64 l, .int .i64 p], .slice A n c, .int .i64 k] w fun e w' => e = .returned (.bool true) ∧ Below w.heap.size w w' := by
  have AW := hide (fun w2 (h : Below w.heap.size w w2) => awake10 w2 (hT.below h))
  clear hT
  have B0 := (Below.refl w.heap.size w).alloc (Nat.le_refl _) (.cells #[.int .i64 s, .int .i64 t, .int .i64 f, .int .i64 l, .int .i64 p] 23)
  have bc := Blk.new w 23 #[.int .i64 s, .int .i64 t, .int .i64 f, .int .i64 l, .int .i64 p]
  have mc := fun i => bc.cell i
  go_enter Tryd.func3, Tryd.ntmps3
  go_wp2_with fail
  refine (AW.out _ B0).mono ?_
  rintro e w9 ⟨rfl, hb1⟩
  go_wp2_with fail
  go_ret
  exact ⟨rfl, B0.trans (hb1.mono B0.size)⟩
set_option maxRecDepth 100000 in
set_option maxHeartbeats 2000000 in
theorem tells_big (s t f l p k : Int) (A : Option Addr) (n c : Nat) (w : World) (hT : Tab w) (h1 : ¬ (300 : Int) < n) (h2 : 5000 < rSize s t f l p) :
    Calls Tryd.prog 3 #[.agg #[.int .i64 s, .int .i64 t, .int .i64 f, .int .i64 l, .int .i64 p], .slice A n c, .int .i64 k] w fun e w' => e = .returned (.bool true) ∧ Below w.heap.size w w' := by
  have AW := hide (fun w2 (h : Below w.heap.size w w2) => awake10 w2 (hT.below h))
  have SZ := hide (fun w2 => rsize_any s t f l p w2)
  generalize rSize s t f l p = z at *
  clear hT
  have B0 := (Below.refl w.heap.size w).alloc (Nat.le_refl _) (.cells #[.int .i64 s, .int .i64 t, .int .i64 f, .int .i64 l, .int .i64 p] 23)
  have bc := Blk.new w 23 #[.int .i64 s, .int .i64 t, .int .i64 f, .int .i64 l, .int .i64 p]
  have mc := fun i => bc.cell i
  go_enter Tryd.func3, Tryd.ntmps3
  go_wp2_with fail
  refine (SZ.out _).mono ?_
  rintro e w1 ⟨rfl, hb1⟩
  replace bc := bc.below hb1 bc.lt
  replace B0 := B0.trans (hb1.mono B0.size)
  clear hb1 mc
  have mc := fun i => bc.cell i
  go_wp2_with fail
  refine (AW.out _ B0).mono ?_
  rintro e w9 ⟨rfl, hb1⟩
  go_wp2_with fail
  go_ret
  exact ⟨rfl, B0.trans (hb1.mono B0.size)⟩
set_option maxRecDepth 100000 in
set_option maxHeartbeats 2000000 in
theorem tells_no (s t f l p k : Int) (A : Option Addr) (n c : Nat) (w : World) (hT : Tab w) (h1 : ¬ (300 : Int) < n) (hc : cfgOk s t f l p = false) :
    Calls Tryd.prog 3 #[.agg #[.int .i64 s, .int .i64 t, .int .i64 f, .int .i64 l, .int .i64 p], .slice A n c, .int .i64 k] w fun e w' => e = .returned (.bool true) ∧ Below w.heap.size w w' := by
  have AW := hide (fun w2 (h : Below w.heap.size w w2) => awake10 w2 (hT.below h))
  have SZ := hide (fun w2 => rsize_any s t f l p w2)
  rw [show rSize s t f l p = 0 by unfold rSize; rw [hc]; rfl] at SZ
  clear hT hc
  have B0 := (Below.refl w.heap.size w).alloc (Nat.le_refl _) (.cells #[.int .i64 s, .int .i64 t, .int .i64 f, .int .i64 l, .int .i64 p] 23)
  have bc := Blk.new w 23 #[.int .i64 s, .int .i64 t, .int .i64 f, .int .i64 l, .int .i64 p]
  have mc := fun i => bc.cell i
  go_enter Tryd.func3, Tryd.ntmps3
  go_wp2_with fail
  refine (SZ.out _).mono ?_
  rintro e w1 ⟨rfl, hb1⟩
  replace bc := bc.below hb1 bc.lt
  replace B0 := B0.trans (hb1.mono B0.size)
  clear hb1 mc
  have mc := fun i => bc.cell i
  go_wp2_with fail
  refine (SZ.out _).mono ?_
  rintro e w1 ⟨rfl, hb1⟩
  replace bc := bc.below hb1 bc.lt
  replace B0 := B0.trans (hb1.mono B0.size)
  clear hb1 mc
  have mc := fun i => bc.cell i
  go_wp2_with fail
  refine (AW.out _ B0).mono ?_
  rintro e w9 ⟨rfl, hb1⟩
  go_wp2_with fail
  go_ret
  exact ⟨rfl, B0.trans (hb1.mono B0.size)⟩
theorem sameB_refl10 (b : Bool) (ks vs : List Int) (l : Int) : sameB b ks vs l b ks vs l = true := by simp [sameB]
theorem frN_len (nx : Int → Int) (s : Int) : ∀ (n : Nat) (x : Int) (l : List Int), (frN nx s n x l).1.length ≤ l.length + n
  | 0, _, l => by unfold frN; simp
  | n + 1, x, l => by
    unfold frN
    split
    · simp
    · split
      · simp
      · have h := frN_len nx s n (nx x) (l ++ [x])
        rw [List.length_append] at h
        simp only [List.length_singleton] at h
        omega
theorem frR_len (ws : List Int) (s t f : Int) (hs : 1 ≤ s ∧ s ≤ 1000) : (frR ws s t f).1.length ≤ 2000 := by
  have h := frN_len (nxt ws t f) s (s.toNat + 1) (wGet ws 2 % 65536) []
  unfold frR
  simp only [List.length_nil] at h
  omega
def TlI (gm gw g gc : Nat) (s t f l p : Int) (ws0 : List Int) (l0 : List (Int × Int)) (n : Nat) (w : World) (iv : Value) (wr : World) : Prop :=
  ∃ (k : Nat), iv = .int .i64 k ∧ k ≤ n ∧ MemOk wr gm gw s t f l p (mWri ws0 l0 n) ∧ RefOk wr g (mWri ws0 l0 k) ∧ Blk wr gc 23 #[.int .i64 s, .int .i64 t, .int .i64 f, .int .i64 l, .int .i64 p] ∧ Below w.heap.size w wr
set_option maxRecDepth 100000 in
set_option maxHeartbeats 8000000 in
theorem tells_yes (s t f l p k : Int) (A : Option Addr) (n c : Nat) (l0 : List (Int × Int)) (w : World) (hT : Tab w) (h1 : ¬ (300 : Int) < n) (hc : cfgOk s t f l p = true) (h2 : laySize s t f ≤ 5000) (hr : Reads w w.heap.size 2 A n (recW l0)) (hw : ∀ r ∈ l0, W64 r.2) (hki : I64 k) :
    Calls Tryd.prog 3 #[.agg #[.int .i64 s, .int .i64 t, .int .i64 f, .int .i64 l, .int .i64 p], .slice A n c, .int .i64 k] w fun e w' => e = .returned (.bool true) ∧ Below w.heap.size w w' := by
  have hb := cfgOk_iff.1 hc
  have hs : 1 ≤ s ∧ s ≤ 1000 := by omega
  have ht : 1 ≤ t ∧ t ≤ 64 := by omega
  have hf : 4 ≤ f ∧ f ≤ 64 := by omega
  have hsp := size_pos hs ht hf
  obtain ⟨N, hN⟩ : ∃ N : Nat, laySize s t f = N := Int.eq_ofNat_of_zero_le (by omega)
  have SZ := hide (fun w2 => rsize_any s t f l p w2)
  rw [show rSize s t f l p = N by unfold rSize; rw [if_pos hc]; exact hN] at SZ
  have AW := hide (fun w2 (hb : Below w.heap.size w w2) => awake10 w2 (hT.below hb))
  have AN := hide (fun w2 (hb : Below w.heap.size w w2) => anew10_yes s t f l p N w2 (hT.below hb) hc hN)
  have RN := hide (fun w2 => rnew10_any s t f l p N w2 hc hN)
  have hlen : (begL s t f).length = N := by rw [begL_len, hN]; rfl
  obtain ⟨ws, hws⟩ : ∃ ws, mWri (begL s t f) l0 n = ws := ⟨_, rfl⟩
  have hlw : ws.length = N := by rw [← hws, mWri_len]; exact hlen
  have h64 : AllW64 ws := by rw [← hws]; exact mWri_w64 (begL_w64 hs.2) hw n
  have hl0 := hr.lenWri
  have WR := hide (fun gm gw w2 (M : MemOk w2 gm gw s t f l p (begL s t f)) (hr2 : Reads w2 w2.heap.size 2 A n (recW l0)) (hne : 0 < n → ∀ ad, A = some ad → ad.block ≠ gw) => write_any gm gw s t f l p A n c (begL s t f) l0 w2 M hr2 hne (by omega))
  rw [hws] at WR
  have DO := hide (fun g (ws9 : List Int) (h9 : ws9.length = N) c9 a n9 w2 (R : RefOk w2 g ws9) => (by have h := rdo_any g c9 2 a 0 n9 ws9 w2 R; rw [mDo_two, h9] at h; exact h : Calls Tryd.prog 13 #[.slice (some ⟨g, 0, none⟩) N c9, .agg #[.int .i64 2, .int .i64 a, .int .u64 0, .int .u64 n9]] w2 fun e w' => e = .returned (.int .u64 (mDo ws9 2 a 0 n9).1) ∧ RefOk w' g (wPut ws9 a n9) ∧ w2.grownBy w' (some g)))
  have NS := hide (fun gm gw g c9 => node_same gm gw g s t f l p k N c9 ws hs ht hf hN hlw h64)
  have FR := hide (fun gm gw w2 (M : MemOk w2 gm gw s t f l p ws) => afree_any gm gw s t f l p ws w2 hs ht hf M h64)
  have RF := hide (fun g c9 w2 (R : RefOk w2 g ws) => rfree_any g s t f l p N c9 ws w2 hs ht hf hN hlw R h64)
  have TR := hide (fun gm gw w2 (M : MemOk w2 gm gw s t f l p ws) => atree_any gm gw s t f l p ws w2 hs ht hf M h64)
  have RT := hide (fun g c9 w2 (R : RefOk w2 g ws) => rtree_any g s t f l p N c9 ws w2 hs ht hf hN hlw R h64)
  have RO := hide (fun gm gw w2 (M : MemOk w2 gm gw s t f l p ws) => aroot_any gm gw s t f l p ws w2 hs ht hf M)
  obtain ⟨q0, hq0⟩ : ∃ q0 : Nat, nB t f 0 + 3 + f + 0 = q0 := Int.eq_ofNat_of_zero_le (by have := nB_bd hs ht hf (sl := 0) (by omega); omega)
  have CV := hide (fun w2 => rval_any s t f l p 0 0 w2 hs ht hf (by omega) (by omega))
  rw [hq0] at CV
  have hq0N : q0 < ws.length := by have := nB_bd hs ht hf (sl := 0) (by omega); omega
  have AT0 := hide (fun (g : Nat) (w2 : World) (R2 : RefOk w2 g ws) => (by have h := R2.at_ hq0N; rw [show ws.getD q0 0 = wGet ws (nB t f 0 + 3 + f) by rw [← wGet_at hq0N]; congr 1; omega] at h; exact h : w2.cell? ⟨g, q0, none⟩ = some (.int .u64 (wGet ws (nB t f 0 + 3 + f)))))
  have TLN := hide (show (treeL ws s t f).length ≤ 1000 from by
    have h1 := (comeN_nice (ndOf ws t f) s (s.toNat + 1) (wGet ws (nB t f 0 + 3 + f)) [] (nice_nil s)).1
    have h2 := nice_le h1 (by omega)
    unfold treeL
    omega)
  have HFL := hide (frR_len ws s t f hs)
  -- the handle
  have HH : ∃ hv : Int, (∀ gm gw w2, MemOk w2 gm gw s t f l p ws → Calls Tryd.prog 22 #[.pointer (some ⟨gm, 0, none⟩), .int .i64 k] w2 fun e w' => e = .returned (.int .u64 hv) ∧ Below w2.heap.size w2 w') ∧ ((1 ≤ k ∧ k ≤ s ∧ hv = hmk (vgen (wGet ws (nB t f k))) k) ∨ (¬ 1 ≤ k ∧ hv = 0) ∨ (1 ≤ k ∧ ¬ k ≤ s ∧ hv = 0)) := by
    by_cases hk1 : 1 ≤ k
    · by_cases hk2 : k ≤ s
      · exact ⟨_, fun gm gw w2 M => ahandle_yes gm gw s t f l p k ws w2 hs ht hf ⟨hk1, hk2⟩ M h64, .inl ⟨hk1, hk2, rfl⟩⟩
      · exact ⟨0, fun gm gw w2 M => ahandle_no gm gw s t f l p k ws w2 hs ht hf (by omega) M, .inr (.inr ⟨hk1, hk2, rfl⟩)⟩
    · exact ⟨0, fun gm gw w2 M => ahandle_no gm gw s t f l p k ws w2 hs ht hf (by omega) M, .inr (.inl ⟨hk1, rfl⟩)⟩
  obtain ⟨hv, HH1, HH2⟩ := HH
  replace HH1 := hide HH1
  have GX := hide (fun (hk1 : 1 ≤ k) (hk2 : k ≤ s) => And.intro (nB_bd hs ht hf (sl := k) (by omega)) (And.intro ht hf))
  have VR := hide (fun (hk1 : 1 ≤ k) (hk2 : k ≤ s) w2 => rver_any s t f l p k w2 hs ht hf (by omega))
  have W64w := hide (fun a => wGet_w64 h64 a)
  have HLW := hide hlw
  have HKI := hide hki
  have hN1 : ((N : Int) == 0) = false := by simp; omega
  have hN2 : ¬ (5000 : Int) < (N : Int) := by omega
  have hNq0 : q0 < N := by omega
  generalize wGet ws (nB t f 0 + 3 + f) = rt at *
  generalize treeL ws s t f = tl at *
  generalize frR ws s t f = fr at *
  have HWS := hide hws
  have HLN := hide hlen
  have HNN := hide hN
  have HR := hide hr
  have HL0 := hide hl0
  have hn3 : n ≤ 300 := by omega
  clear hT hc hb hs ht hf hsp hlen h64 h2 hN hws hlw hq0 hq0N hr hw hki hl0
  generalize hbl : begL s t f = bl at *
  clear hbl
  have B0 := (Below.refl w.heap.size w).alloc (Nat.le_refl _) (.cells #[.int .i64 s, .int .i64 t, .int .i64 f, .int .i64 l, .int .i64 p] 23)
  have bc := Blk.new w 23 #[.int .i64 s, .int .i64 t, .int .i64 f, .int .i64 l, .int .i64 p]
  have mc := fun i => bc.cell i
  go_enter Tryd.func3, Tryd.ntmps3
  go_wp2_with fail
  refine (SZ.out _).mono ?_
  rintro e w1 ⟨rfl, hb1⟩
  replace bc := bc.below hb1 bc.lt
  replace B0 := B0.trans (hb1.mono B0.size)
  clear hb1 mc
  have mc := fun i => bc.cell i
  go_wp2_with fail
  refine (SZ.out _).mono ?_
  rintro e w1 ⟨rfl, hb1⟩
  replace bc := bc.below hb1 bc.lt
  replace B0 := B0.trans (hb1.mono B0.size)
  clear hb1 mc
  have mc := fun i => bc.cell i
  go_wp2_with fail
  have hsA := bc.lt
  refine (AN.out _ B0).mono ?_
  rintro e w2 ⟨⟨gm, gw, rfl, M, hgm, hgw⟩, hb1⟩
  replace bc := bc.below hb1 bc.lt
  replace B0 := B0.trans (hb1.mono B0.size)
  clear hb1 mc
  have mc := fun i => bc.cell i
  go_wp2_with fail
  have hsB := bc.lt
  have hgmlt := Blk.lt M.1
  have hgwlt := Blk.lt M.2.1
  refine (RN.out _).mono ?_
  rintro e w3 ⟨⟨g, rfl, R, hg⟩, hb1⟩
  replace M := M.below hb1
  replace bc := bc.below hb1 bc.lt
  replace B0 := B0.trans (hb1.mono B0.size)
  clear hb1 mc
  have mc := fun i => bc.cell i
  have HGN := hide (show g ≠ gm ∧ g ≠ gw ∧ w.heap.size < g ∧ w.heap.size < gw from ⟨by omega, by omega, by omega, by omega⟩)
  clear hsA hsB hgmlt hgwlt hg hgm hgw
  go_wp2_with fail
  refine (WR.out _ _ _ M ((HR.out.below B0).more B0.size) (fun hn ad had e9 => by
    obtain ⟨a9, h9, h8, _⟩ := HR.out.2 hn
    rw [had] at h9
    injection h9 with h9
    subst h9
    have := HGN.out
    omega)).mono ?_
  rintro e w4 ⟨⟨v4, rfl⟩, M, hg4⟩
  replace B0 := below_grown B0 hg4 (by have := HGN.out; omega) B0.size
  replace bc := bc.grown hg4 (fun e => by injection e with e; have := HGN.out; omega)
  replace R := R.grown hg4 (fun e => by injection e with e; exact HGN.out.2.1 e)
  clear hg4 mc
  go_wp2_with fail
  obtain ⟨gc, hgc⟩ : ∃ gc, gc = w.heap.size := ⟨_, rfl⟩
  rw [← hgc] at bc ⊢
  have HGC := hide hgc
  clear hgc
  go_loopw [9] (TlI gm gw g gc s t f l p bl l0 n w) (fun i _ => n - (intOf i).toNat)
  case atStart => exact ⟨0, rfl, Nat.zero_le _, by rw [HWS.out]; exact M, R, bc, B0⟩
  case round =>
    clear M R bc B0
    obtain ⟨j, rfl, hj, M, R, bc, B0⟩ := hrel
    by_cases hlt : j < n
    · obtain ⟨a, rfl, hab, hjl, z1, z2⟩ := (HR.out.below B0).wri hlt
      have HAB := hide hab
      have Dk := hide (fun w2 R2 => DO.out g (mWri bl l0 j) (by rw [mWri_len]; exact HLN.out) N l0[j].1 l0[j].2 w2 R2)
      have HMW := hide (show mWri bl l0 (j + 1) = wPut (mWri bl l0 j) l0[j].1 l0[j].2 from by
        show wPut (mWri bl l0 j) (l0.getD j (0, 0)).1 (l0.getD j (0, 0)).2 = _
        rw [show l0.getD j (0, 0) = l0[j] by simp [List.getD, hjl]])
      generalize l0[j] = rj at *
      obtain ⟨x1, x2⟩ := rj
      dsimp only at z1 z2 Dk HMW
      rw [← HMW.out] at Dk
      obtain ⟨m2, hm2⟩ : ∃ m2, m2 = mWri bl l0 (j + 1) := ⟨_, rfl⟩
      rw [← hm2] at Dk
      have HM2 := hide hm2
      clear hm2
      generalize mWri bl l0 j = m1 at *
      have hlt2 : (j : Int) < (n : Int) := by omega
      have hj3 : (j : Int) ≤ 300 := by omega
      have HZ := hide (And.intro z1 z2)
      clear z1 z2 hab
      have z1 := HZ.out.1
      have z2 := HZ.out.2
      go_wp2_with fail
      refine wp_region_heldZ [12] (fun w' => w'.cell? (a.add (j * 2)) = some (.int .i64 x1) ∧ w'.cell? ⟨(a.add (j * 2)).block, (a.add (j * 2)).off + 1, none⟩ = some (.int .u64 x2)) (by kernel_rfl) (by exact ⟨z1, z2⟩) (fun hHeld => ?_)
      replace M := M.drew
      replace R := (show RefOk _ g _ from Blk.drew R)
      replace bc := bc.drew
      replace B0 := B0.drew
      generalize wr.drew = wd at *
      refine' wpAnyZ_takeA (i := 0) (v := ?_) (opAt rfl) (by kernel_rfl) (by kernel_rfl) (by kernel_rfl) (by kernel_rfl) (fun _ _ _ h => h) (by assumption) (by rfl) (fun w hSw => ?_) ?_
      rotate_left
      · (try dsimp only at hSw); go_simp; (try with_reducible rfl)
      try simp only [Act.put, List.setIfInBounds_toArray, List.set_cons_zero, List.set_cons_succ]
      refine' wpAnyZ_takeA (i := 1) (v := ?_) (opAt rfl) (by kernel_rfl) (by kernel_rfl) (by kernel_rfl) (by kernel_rfl) (fun _ _ _ h => h) (by assumption) (by rfl) (fun w hSw => ?_) ?_
      rotate_left
      · (try dsimp only at hSw); go_simp; (try with_reducible rfl)
      try simp only [Act.put, List.setIfInBounds_toArray, List.set_cons_zero, List.set_cons_succ]
      refine' wpAnyZ_takeA (i := 2) (v := ?_) (opAt rfl) (by kernel_rfl) (by kernel_rfl) (by kernel_rfl) (by kernel_rfl) (fun _ _ _ h => h) (by assumption) (by rfl) (fun w hSw => ?_) ?_
      rotate_left
      · (try dsimp only at hSw); go_simp; (try with_reducible rfl)
      try simp only [Act.put, List.setIfInBounds_toArray, List.set_cons_zero, List.set_cons_succ]
      refine' wpAnyZ_takeA (i := 3) (v := ?_) (opAt rfl) (by kernel_rfl) (by kernel_rfl) (by kernel_rfl) (by kernel_rfl) (fun _ _ _ h => h) (by assumption) (by rfl) (fun w hSw => ?_) ?_
      rotate_left
      · (try dsimp only at hSw); go_simp; (try with_reducible rfl)
      try simp only [Act.put, List.setIfInBounds_toArray, List.set_cons_zero, List.set_cons_succ]
      refine' wpAnyZ_takeA (i := 4) (v := ?_) (opAt rfl) (by kernel_rfl) (by kernel_rfl) (by kernel_rfl) (by kernel_rfl) (fun _ _ _ h => h) (by assumption) (by rfl) (fun w hSw => ?_) ?_
      rotate_left
      · (try dsimp only at hSw); go_simp; (try with_reducible rfl)
      try simp only [Act.put, List.setIfInBounds_toArray, List.set_cons_zero, List.set_cons_succ]
      refine' wpAnyZ_takeA (i := 5) (v := ?_) (opAt rfl) (by kernel_rfl) (by kernel_rfl) (by kernel_rfl) (by kernel_rfl) (fun _ _ _ h => h) (by assumption) (by rfl) (fun w hSw => ?_) ?_
      rotate_left
      · (try dsimp only at hSw); go_simp; (try with_reducible rfl)
      try simp only [Act.put, List.setIfInBounds_toArray, List.set_cons_zero, List.set_cons_succ]
      refine' wpAnyZ_takeA (i := 6) (v := ?_) (opAt rfl) (by kernel_rfl) (by kernel_rfl) (by kernel_rfl) (by kernel_rfl) (fun _ _ _ h => h) (by assumption) (by rfl) (fun w hSw => ?_) ?_
      rotate_left
      · (try dsimp only at hSw); go_simp; (try with_reducible rfl)
      try simp only [Act.put, List.setIfInBounds_toArray, List.set_cons_zero, List.set_cons_succ]
      refine' wpAnyZ_takeA (i := 7) (v := ?_) (opAt rfl) (by kernel_rfl) (by kernel_rfl) (by kernel_rfl) (by kernel_rfl) (fun _ _ _ h => h) (by assumption) (by rfl) (fun w hSw => ?_) ?_
      rotate_left
      · (try dsimp only at hSw); go_simp; (try with_reducible rfl)
      try simp only [Act.put, List.setIfInBounds_toArray, List.set_cons_zero, List.set_cons_succ]
      refine' wpAnyZ_takeA (i := 8) (v := ?_) (opAt rfl) (by kernel_rfl) (by kernel_rfl) (by kernel_rfl) (by kernel_rfl) (fun _ _ _ h => h) (by assumption) (by rfl) (fun w hSw => ?_) ?_
      rotate_left
      · (try dsimp only at hSw); go_simp; (try with_reducible rfl)
      try simp only [Act.put, List.setIfInBounds_toArray, List.set_cons_zero, List.set_cons_succ]
      refine' wpAnyZ_takeA (i := 9) (v := ?_) (opAt rfl) (by kernel_rfl) (by kernel_rfl) (by kernel_rfl) (by kernel_rfl) (fun _ _ _ h => h) (by assumption) (by rfl) (fun w hSw => ?_) ?_
      rotate_left
      · (try dsimp only at hSw); go_simp; (try with_reducible rfl)
      try simp only [Act.put, List.setIfInBounds_toArray, List.set_cons_zero, List.set_cons_succ]
      refine' wpAnyZ_takeA (i := 10) (v := ?_) (opAt rfl) (by kernel_rfl) (by kernel_rfl) (by kernel_rfl) (by kernel_rfl) (fun _ _ _ h => h) (by assumption) (by rfl) (fun w hSw => ?_) ?_
      rotate_left
      · (try dsimp only at hSw); go_simp; (try with_reducible rfl)
      try simp only [Act.put, List.setIfInBounds_toArray, List.set_cons_zero, List.set_cons_succ]
      refine' wpAnyZ_takeA (i := 11) (v := ?_) (opAt rfl) (by kernel_rfl) (by kernel_rfl) (by kernel_rfl) (by kernel_rfl) (fun _ _ _ h => h) (by assumption) (by rfl) (fun w hSw => ?_) ?_
      rotate_left
      · (try dsimp only at hSw); go_simp; (try with_reducible rfl)
      try simp only [Act.put, List.setIfInBounds_toArray, List.set_cons_zero, List.set_cons_succ]
      refine wpAnyZ_ready (rs := [12]) (by kernel_rfl) (by simp) ?_
      refine AllReadyZ.last (opAt rfl) (by kernel_rfl) (fun K hK => ?_) ?_
      · skip
        go_simp
        refine (Dk.out _ R).mono ?_
        rintro e w8 ⟨rfl, R8, hg8⟩
        replace M := M.grown hg8 (fun e => by injection e with e; exact HGN.out.1 e.symm) (fun e => by injection e with e; exact HGN.out.2.1 e.symm)
        replace bc := bc.grown hg8 (fun e => by injection e with e; have h1 := HGN.out; have h2 := HGC.out; omega)
        replace B0 := below_grown B0 hg8 (by have := HGN.out; omega) B0.size
        clear R hg8
        try go_wp2_with fail
        refine hK.out _ _ ?_
        clear hK K
        try simp only [Act.put, List.setIfInBounds_toArray, List.set_cons_zero, List.set_cons_succ]
        refine wpAnyZ_done (by kernel_rfl) ?_ _
        go_wp2_with fail
        go_roundw
        case measure => simp [intOf]; omega
        case rel => exact ⟨j + 1, by go_num, by omega, M, by rw [← HM2.out]; exact R8, bc, B0⟩
      exact AllReadyZ.nil
    · have hjn : j = n := by omega
      have hlt2 : ¬ (j : Int) < (n : Int) := by omega
      subst hjn
      rw [HWS.out] at M R
      clear hlt DO
      clear hj
      obtain ⟨nb, nks, nvs, nlk, hNS⟩ := NS.out gm gw g N
      have NA := hide hNS.1
      have NR := hide hNS.2.1
      have SM := hide (fun v u w2 (h : NdO w2 w2.heap.size v nb nks nvs nlk) (h' : NdO w2 w2.heap.size u nb nks nvs nlk) => same_any v u nb nb nks nvs nks nvs nlk nlk w2 (by have := hNS.2.2.1; omega) (by have := hNS.2.2.2; omega) (by have := hNS.2.2.1; omega) (by have := hNS.2.2.2; omega) h.nd h'.nd)
      have SM0 := hide (fun v u w2 (h : Nd w2 w2.heap.size v nb nks nvs nlk) (h' : Nd w2 w2.heap.size u nb nks nvs nlk) => same_any v u nb nb nks nvs nks nvs nlk nlk w2 (by have := hNS.2.2.1; omega) (by have := hNS.2.2.2; omega) (by have := hNS.2.2.1; omega) (by have := hNS.2.2.2; omega) h h')
      rw [sameB_refl10] at SM0
      clear hNS NS SM
      have IT := hide (fun v u (x : List Int) (hx : x.length ≤ 1000000) w2 (h : SlI w2 w2.heap.size v x) (h' : SlI w2 w2.heap.size u x) => (by have h9 := ints10_any v u x x w2 hx hx h h'; rw [show decide (x = x) = true by simp] at h9; exact h9 : Calls Tryd.prog 23 #[v, u] w2 fun e w' => e = .returned (.bool true) ∧ Below w2.heap.size w2 w'))
      rw [HGC.out] at bc ⊢
      have mc := fun i => bc.cell i
      rcases HH2 with ⟨hk1, hk2, hhv⟩ | ⟨hk1, hhv⟩ | ⟨hk1, hk2, hhv⟩
      · obtain ⟨pv, hpv⟩ : ∃ pv : Nat, nB t f k = pv := Int.eq_ofNat_of_zero_le (by have := GX.out hk1 hk2; have := HNN.out; omega)
        have hpN : pv < ws.length := by have h1 := GX.out hk1 hk2; have h2 := HNN.out; have h3 := HLW.out; omega
        have CVk := hide (VR.out hk1 hk2)
        rw [hpv] at CVk
        have ATk := hide (fun (w2 : World) (R2 : RefOk w2 g ws) => (by have h := R2.at_ hpN; rw [← wGet_at hpN, ← hpv] at h; exact h : w2.cell? ⟨g, pv, none⟩ = some (.int .u64 (wGet ws (nB t f k)))))
        have OF := hide (fun w2 => rof_any (wGet ws (nB t f k)) w2 (W64w.out _))
        have MK := hide (fun w2 => rhm_any (vgen (wGet ws (nB t f k))) k w2 (by obtain ⟨a, b⟩ := W64w.out (nB t f k); unfold vgen; exact ⟨by omega, by omega⟩) HKI.out)
        rw [← hhv] at MK
        have vf := vgen_field (wGet ws (nB t f k))
        have hpN2 : pv < N := by have := HLW.out; omega
        generalize vgen (wGet ws (nB t f k)) = gv at *
        generalize vagg (wGet ws (nB t f k)) = va9 at *
        generalize wGet ws (nB t f k) = xk at *
        have HHV := hide hhv
        clear hhv hpv hpN
        go_wp2_with fail
        refine (CVk.out _).mono ?_
        rintro e w5 ⟨rfl, hb1⟩
        replace M := M.below hb1
        replace R := R.below hb1
        replace bc := bc.below hb1 bc.lt
        replace B0 := B0.trans (hb1.mono B0.size)
        clear hb1 mc
        have mc := fun i => bc.cell i
        have ak := ATk.out _ R
        go_wp2_with fail
        refine (OF.out _).mono ?_
        rintro e w6 ⟨rfl, hb1⟩
        replace M := M.below hb1
        replace R := R.below hb1
        replace bc := bc.below hb1 bc.lt
        replace B0 := B0.trans (hb1.mono B0.size)
        clear hb1 mc
        have mc := fun i => bc.cell i
        clear ak
        go_wp2_with fail
        refine (MK.out _).mono ?_
        rintro e w7 ⟨rfl, rfl⟩
        clear vf hk1 hk2
        go_wp2_with fail
        refine (FR.out _ _ _ M).mono ?_
        rintro e wf ⟨⟨Af, cf, rfl, of⟩, hb1⟩
        replace M := M.below hb1
        replace R := R.below hb1
        replace bc := bc.below hb1 bc.lt
        replace B0 := B0.trans (hb1.mono B0.size)
        clear hb1
        clear mc
        have mc := fun i => bc.cell i
        go_wp2_with fail
        refine (RF.out _ _ _ R).mono ?_
        rintro e wg ⟨⟨Ag, cg, rfl, og⟩, hb1⟩
        replace M := M.below hb1
        replace R := R.below hb1
        replace bc := bc.below hb1 bc.lt
        replace of := own_below of hb1
        replace B0 := B0.trans (hb1.mono B0.size)
        clear hb1
        clear mc
        go_wp2_with fail
        refine wp_region_heldZ [] (fun w' => w'.cell? ⟨w.heap.size, 0, none⟩ = some (.int .i64 s) ∧ w'.cell? ⟨w.heap.size, 1, none⟩ = some (.int .i64 t) ∧ w'.cell? ⟨w.heap.size, 2, none⟩ = some (.int .i64 f) ∧ w'.cell? ⟨w.heap.size, 3, none⟩ = some (.int .i64 l) ∧ w'.cell? ⟨w.heap.size, 4, none⟩ = some (.int .i64 p) ∧ w'.cell? ⟨g, q0, none⟩ = some (.int .u64 rt)) (by kernel_rfl) (by exact ⟨bc.cell 0, bc.cell 1, bc.cell 2, bc.cell 3, bc.cell 4, AT0.out _ _ R⟩) (fun hHeld => ?_)
        replace M := M.drew
        replace R := (show RefOk _ g _ from Blk.drew R)
        replace bc := bc.drew
        replace of := (show wg.drew.ownsRow _ _ _ _ _ _ from of)
        replace og := (show wg.drew.ownsRow _ _ _ _ _ _ from og)
        replace B0 := B0.drew
        generalize wg.drew = wx at *
        refine' wpAnyZ_takeA (i := 0) (v := ?_) (opAt rfl) (by kernel_rfl) (by kernel_rfl) (by kernel_rfl) (by kernel_rfl) (fun _ _ _ h => h) (by assumption) (by rfl) (fun w hSw => ?_) ?_
        rotate_left
        · (try dsimp only at hSw); go_simp; (try with_reducible rfl)
        try simp only [Act.put, List.setIfInBounds_toArray, List.set_cons_zero, List.set_cons_succ]
        refine' wpAnyZ_takeA (i := 1) (v := ?_) (opAt rfl) (by kernel_rfl) (by kernel_rfl) (by kernel_rfl) (by kernel_rfl) (fun _ _ _ h => h) (by assumption) (by rfl) (fun w hSw => ?_) ?_
        rotate_left
        · (try dsimp only at hSw); go_simp; (try with_reducible rfl)
        try simp only [Act.put, List.setIfInBounds_toArray, List.set_cons_zero, List.set_cons_succ]
        refine' wpAnyZ_takeA (i := 3) (v := ?_) (opAt rfl) (by kernel_rfl) (by kernel_rfl) (by kernel_rfl) (by kernel_rfl) (fun _ _ _ h => h) (by assumption) (by rfl) (fun w hSw => ?_) ?_
        rotate_left
        · (try dsimp only at hSw); go_simp; (try with_reducible rfl)
        try simp only [Act.put, List.setIfInBounds_toArray, List.set_cons_zero, List.set_cons_succ]
        refine' wpAnyZ_takeA (i := 4) (v := ?_) (opAt rfl) (by kernel_rfl) (by kernel_rfl) (by kernel_rfl) (by kernel_rfl) (fun _ _ _ h => h) (by assumption) (by rfl) (fun w hSw => ?_) ?_
        rotate_left
        · (try dsimp only at hSw); go_simp; (try with_reducible rfl)
        try simp only [Act.put, List.setIfInBounds_toArray, List.set_cons_zero, List.set_cons_succ]
        refine' wpAnyZ_takeA (i := 5) (v := ?_) (opAt rfl) (by kernel_rfl) (by kernel_rfl) (by kernel_rfl) (by kernel_rfl) (fun _ _ _ h => h) (by assumption) (by rfl) (fun w hSw => ?_) ?_
        rotate_left
        · (try dsimp only at hSw); go_simp; (try with_reducible rfl)
        try simp only [Act.put, List.setIfInBounds_toArray, List.set_cons_zero, List.set_cons_succ]
        refine wpAnyZ_ready (rs := [2]) (by kernel_rfl) (by simp) ?_
        refine AllReadyZ.cons (opAt rfl) (fun K hK => ?_) ?_
        · skip
          go_simp
          refine (NA.out _ M).mono ?_
          rintro e wn1 ⟨⟨nv, rfl, ⟨nk, nu, rfl, n1, n2⟩⟩, hb1⟩
          obtain ⟨N1, d1, rfl⟩ := n1.val
          obtain ⟨N2, d2, rfl⟩ := n2.val
          replace M := M.below hb1
          replace R := R.below hb1
          replace bc := bc.below hb1 bc.lt
          replace of := own_below of hb1
          replace og := own_below og hb1
          replace B0 := B0.trans (hb1.mono B0.size)
          clear hb1
          try go_wp2_with fail
          refine hK.out _ _ (by exact ⟨bc.cell 0, bc.cell 1, bc.cell 2, bc.cell 3, bc.cell 4, AT0.out _ _ R⟩) (fun hHeld => ?_)
          clear hK K
          try simp only [Act.put, List.setIfInBounds_toArray, List.set_cons_zero, List.set_cons_succ]
          refine wpAnyZ_ready (rs := [6]) (by kernel_rfl) (by simp) ?_
          refine AllReadyZ.cons (opAt rfl) (fun K hK => ?_) ?_
          · skip
            go_simp
            refine (NR.out _ R).mono ?_
            rintro e wn2 ⟨⟨rv, rfl, ⟨rk, ru, rfl, r1, r2⟩⟩, hb1⟩
            obtain ⟨N3, d3, rfl⟩ := r1.val
            obtain ⟨N4, d4, rfl⟩ := r2.val
            replace M := M.below hb1
            replace R := R.below hb1
            replace bc := bc.below hb1 bc.lt
            replace of := own_below of hb1
            replace og := own_below og hb1
            replace n1 := own_below n1 hb1
            replace n2 := own_below n2 hb1
            replace B0 := B0.trans (hb1.mono B0.size)
            clear hb1
            try go_wp2_with fail
            refine hK.out _ _ (by exact ⟨bc.cell 0, bc.cell 1, bc.cell 2, bc.cell 3, bc.cell 4, AT0.out _ _ R⟩) (fun hHeld => ?_)
            clear hK K
            try simp only [Act.put, List.setIfInBounds_toArray, List.set_cons_zero, List.set_cons_succ]
            refine wpAnyZ_ready (rs := [7]) (by kernel_rfl) (by simp) ?_
            refine AllReadyZ.cons (opAt rfl) (fun K hK => ?_) ?_
            · skip
              go_simp
              refine (SM0.out _ _ _ ⟨_, _, rfl, Sl.of_own n1, Sl.of_own n2⟩ ⟨_, _, rfl, Sl.of_own r1, Sl.of_own r2⟩).mono ?_
              rintro e ws3 ⟨rfl, hb1⟩
              clear n1 n2 r1 r2
              replace M := M.below hb1
              replace R := R.below hb1
              replace bc := bc.below hb1 bc.lt
              replace of := own_below of hb1
              replace og := own_below og hb1
              replace B0 := B0.trans (hb1.mono B0.size)
              clear hb1
              try go_wp2_with fail
              refine hK.out _ _ (by exact ⟨bc.cell 0, bc.cell 1, bc.cell 2, bc.cell 3, bc.cell 4, AT0.out _ _ R⟩) (fun hHeld => ?_)
              clear hK K
              try simp only [Act.put, List.setIfInBounds_toArray, List.set_cons_zero, List.set_cons_succ]
              refine' wpAnyZ_takeA (i := 8) (v := ?_) (opAt rfl) (by kernel_rfl) (by kernel_rfl) (by kernel_rfl) (by kernel_rfl) (fun _ _ _ h => h) (by assumption) (by rfl) (fun w hSw => ?_) ?_
              rotate_left
              · (try dsimp only at hSw); go_simp; (try with_reducible rfl)
              try simp only [Act.put, List.setIfInBounds_toArray, List.set_cons_zero, List.set_cons_succ]
              refine' wpAnyZ_takeA (i := 9) (v := ?_) (opAt rfl) (by kernel_rfl) (by kernel_rfl) (by kernel_rfl) (by kernel_rfl) (fun _ _ _ h => h) (by assumption) (by rfl) (fun w hSw => ?_) ?_
              rotate_left
              · (try dsimp only at hSw); go_simp; (try with_reducible rfl)
              try simp only [Act.put, List.setIfInBounds_toArray, List.set_cons_zero, List.set_cons_succ]
              refine' wpAnyZ_takeA (i := 10) (v := ?_) (opAt rfl) (by kernel_rfl) (by kernel_rfl) (by kernel_rfl) (by kernel_rfl) (fun _ _ _ h => h) (by assumption) (by rfl) (fun w hSw => ?_) ?_
              rotate_left
              · (try dsimp only at hSw); go_simp; (try with_reducible rfl)
              try simp only [Act.put, List.setIfInBounds_toArray, List.set_cons_zero, List.set_cons_succ]
              refine' wpAnyZ_takeA (i := 12) (v := ?_) (opAt rfl) (by kernel_rfl) (by kernel_rfl) (by kernel_rfl) (by kernel_rfl) (fun _ _ _ h => h) (by assumption) (by rfl) (fun w hSw => ?_) ?_
              rotate_left
              · (try dsimp only at hSw); go_simp; (try with_reducible rfl)
              try simp only [Act.put, List.setIfInBounds_toArray, List.set_cons_zero, List.set_cons_succ]
              refine wpAnyZ_ready (rs := [11]) (by kernel_rfl) (by simp) ?_
              refine AllReadyZ.cons (opAt rfl) (fun K hK => ?_) ?_
              · skip
                go_simp
                refine (HH1.out _ _ _ M).mono ?_
                rintro e wh ⟨rfl, hb1⟩
                replace M := M.below hb1
                replace R := R.below hb1
                replace bc := bc.below hb1 bc.lt
                replace of := own_below of hb1
                replace og := own_below og hb1
                replace B0 := B0.trans (hb1.mono B0.size)
                clear hb1
                try go_wp2_with fail
                refine hK.out _ _ (by exact ⟨bc.cell 0, bc.cell 1, bc.cell 2, bc.cell 3, bc.cell 4, AT0.out _ _ R⟩) (fun hHeld => ?_)
                clear hK K
                try simp only [Act.put, List.setIfInBounds_toArray, List.set_cons_zero, List.set_cons_succ]
                refine' wpAnyZ_takeA (i := 13) (v := ?_) (opAt rfl) (by kernel_rfl) (by kernel_rfl) (by kernel_rfl) (by kernel_rfl) (fun _ _ _ h => h) (by assumption) (by rfl) (fun w hSw => ?_) ?_
                rotate_left
                · (try dsimp only at hSw); go_simp; (try with_reducible rfl)
                try simp only [Act.put, List.setIfInBounds_toArray, List.set_cons_zero, List.set_cons_succ]
                refine' wpAnyZ_takeA (i := 14) (v := ?_) (opAt rfl) (by kernel_rfl) (by kernel_rfl) (by kernel_rfl) (by kernel_rfl) (fun _ _ _ h => h) (by assumption) (by rfl) (fun w hSw => ?_) ?_
                rotate_left
                · (try dsimp only at hSw); go_simp; (try with_reducible rfl)
                try simp only [Act.put, List.setIfInBounds_toArray, List.set_cons_zero, List.set_cons_succ]
                refine' wpAnyZ_takeA (i := 15) (v := ?_) (opAt rfl) (by kernel_rfl) (by kernel_rfl) (by kernel_rfl) (by kernel_rfl) (fun _ _ _ h => h) (by assumption) (by rfl) (fun w hSw => ?_) ?_
                rotate_left
                · (try dsimp only at hSw); go_simp; (try with_reducible rfl)
                try simp only [Act.put, List.setIfInBounds_toArray, List.set_cons_zero, List.set_cons_succ]
                refine' wpAnyZ_takeA (i := 16) (v := ?_) (opAt rfl) (by kernel_rfl) (by kernel_rfl) (by kernel_rfl) (by kernel_rfl) (fun _ _ _ h => h) (by assumption) (by rfl) (fun w hSw => ?_) ?_
                rotate_left
                · (try dsimp only at hSw); go_simp; (try with_reducible rfl)
                try simp only [Act.put, List.setIfInBounds_toArray, List.set_cons_zero, List.set_cons_succ]
                refine' wpAnyZ_takeA (i := 18) (v := ?_) (opAt rfl) (by kernel_rfl) (by kernel_rfl) (by kernel_rfl) (by kernel_rfl) (fun _ _ _ h => h) (by assumption) (by rfl) (fun w hSw => ?_) ?_
                rotate_left
                · (try dsimp only at hSw); go_simp; (try with_reducible rfl)
                try simp only [Act.put, List.setIfInBounds_toArray, List.set_cons_zero, List.set_cons_succ]
                refine' wpAnyZ_takeA (i := 19) (v := ?_) (opAt rfl) (by kernel_rfl) (by kernel_rfl) (by kernel_rfl) (by kernel_rfl) (fun _ _ _ h => h) (by assumption) (by rfl) (fun w hSw => ?_) ?_
                rotate_left
                · (try dsimp only at hSw); go_simp; (try with_reducible rfl)
                try simp only [Act.put, List.setIfInBounds_toArray, List.set_cons_zero, List.set_cons_succ]
                refine wpAnyZ_ready (rs := [17]) (by kernel_rfl) (by simp) ?_
                refine AllReadyZ.cons (opAt rfl) (fun K hK => ?_) ?_
                · skip
                  go_simp
                  refine (TR.out _ _ _ M).mono ?_
                  rintro e wt ⟨⟨At, ct, rfl, ot⟩, hb1⟩
                  replace M := M.below hb1
                  replace R := R.below hb1
                  replace bc := bc.below hb1 bc.lt
                  replace of := own_below of hb1
                  replace og := own_below og hb1
                  replace B0 := B0.trans (hb1.mono B0.size)
                  clear hb1
                  try go_wp2_with fail
                  refine hK.out _ _ (by exact ⟨bc.cell 0, bc.cell 1, bc.cell 2, bc.cell 3, bc.cell 4, AT0.out _ _ R⟩) (fun hHeld => ?_)
                  clear hK K
                  try simp only [Act.put, List.setIfInBounds_toArray, List.set_cons_zero, List.set_cons_succ]
                  refine wpAnyZ_ready (rs := [20]) (by kernel_rfl) (by simp) ?_
                  refine AllReadyZ.cons (opAt rfl) (fun K hK => ?_) ?_
                  · skip
                    go_simp
                    refine (RT.out _ _ _ R).mono ?_
                    rintro e wu ⟨⟨Au, cu, rfl, ou⟩, hb1⟩
                    replace M := M.below hb1
                    replace R := R.below hb1
                    replace bc := bc.below hb1 bc.lt
                    replace of := own_below of hb1
                    replace og := own_below og hb1
                    replace ot := own_below ot hb1
                    replace B0 := B0.trans (hb1.mono B0.size)
                    clear hb1
                    try go_wp2_with fail
                    refine hK.out _ _ (by exact ⟨bc.cell 0, bc.cell 1, bc.cell 2, bc.cell 3, bc.cell 4, AT0.out _ _ R⟩) (fun hHeld => ?_)
                    clear hK K
                    try simp only [Act.put, List.setIfInBounds_toArray, List.set_cons_zero, List.set_cons_succ]
                    refine wpAnyZ_ready (rs := [21]) (by kernel_rfl) (by simp) ?_
                    refine AllReadyZ.cons (opAt rfl) (fun K hK => ?_) ?_
                    · skip
                      go_simp
                      refine (IT.out _ _ _ (Nat.le_trans TLN.out (by omega)) _ (SlI.of_own ot) (SlI.of_own ou)).mono ?_
                      rintro e wi ⟨rfl, hb1⟩
                      clear ot ou
                      replace M := M.below hb1
                      replace R := R.below hb1
                      replace bc := bc.below hb1 bc.lt
                      replace of := own_below of hb1
                      replace og := own_below og hb1
                      replace B0 := B0.trans (hb1.mono B0.size)
                      clear hb1
                      try go_wp2_with fail
                      refine hK.out _ _ (by exact ⟨bc.cell 0, bc.cell 1, bc.cell 2, bc.cell 3, bc.cell 4, AT0.out _ _ R⟩) (fun hHeld => ?_)
                      clear hK K
                      try simp only [Act.put, List.setIfInBounds_toArray, List.set_cons_zero, List.set_cons_succ]
                      refine' wpAnyZ_takeA (i := 22) (v := ?_) (opAt rfl) (by kernel_rfl) (by kernel_rfl) (by kernel_rfl) (by kernel_rfl) (fun _ _ _ h => h) (by assumption) (by rfl) (fun w hSw => ?_) ?_
                      rotate_left
                      · (try dsimp only at hSw); go_simp; (try with_reducible rfl)
                      try simp only [Act.put, List.setIfInBounds_toArray, List.set_cons_zero, List.set_cons_succ]
                      refine' wpAnyZ_takeA (i := 23) (v := ?_) (opAt rfl) (by kernel_rfl) (by kernel_rfl) (by kernel_rfl) (by kernel_rfl) (fun _ _ _ h => h) (by assumption) (by rfl) (fun w hSw => ?_) ?_
                      rotate_left
                      · (try dsimp only at hSw); go_simp; (try with_reducible rfl)
                      try simp only [Act.put, List.setIfInBounds_toArray, List.set_cons_zero, List.set_cons_succ]
                      refine' wpAnyZ_takeA (i := 24) (v := ?_) (opAt rfl) (by kernel_rfl) (by kernel_rfl) (by kernel_rfl) (by kernel_rfl) (fun _ _ _ h => h) (by assumption) (by rfl) (fun w hSw => ?_) ?_
                      rotate_left
                      · (try dsimp only at hSw); go_simp; (try with_reducible rfl)
                      try simp only [Act.put, List.setIfInBounds_toArray, List.set_cons_zero, List.set_cons_succ]
                      refine' wpAnyZ_takeA (i := 25) (v := ?_) (opAt rfl) (by kernel_rfl) (by kernel_rfl) (by kernel_rfl) (by kernel_rfl) (fun _ _ _ h => h) (by assumption) (by rfl) (fun w hSw => ?_) ?_
                      rotate_left
                      · (try dsimp only at hSw); go_simp; (try with_reducible rfl)
                      try simp only [Act.put, List.setIfInBounds_toArray, List.set_cons_zero, List.set_cons_succ]
                      refine wpAnyZ_ready (rs := [26]) (by kernel_rfl) (by simp) ?_
                      refine AllReadyZ.cons (opAt rfl) (fun K hK => ?_) ?_
                      · skip
                        go_simp
                        refine (IT.out _ _ _ (Nat.le_trans HFL.out (by omega)) _ (SlI.of_own of) (SlI.of_own og)).mono ?_
                        rintro e wj ⟨rfl, hb1⟩
                        clear of og
                        replace M := M.below hb1
                        replace R := R.below hb1
                        replace bc := bc.below hb1 bc.lt
                        replace B0 := B0.trans (hb1.mono B0.size)
                        clear hb1
                        try go_wp2_with fail
                        refine hK.out _ _ (by exact ⟨bc.cell 0, bc.cell 1, bc.cell 2, bc.cell 3, bc.cell 4, AT0.out _ _ R⟩) (fun hHeld => ?_)
                        clear hK K
                        try simp only [Act.put, List.setIfInBounds_toArray, List.set_cons_zero, List.set_cons_succ]
                        refine' wpAnyZ_takeA (i := 27) (v := ?_) (opAt rfl) (by kernel_rfl) (by kernel_rfl) (by kernel_rfl) (by kernel_rfl) (fun _ _ _ h => h) (by assumption) (by rfl) (fun w hSw => ?_) ?_
                        rotate_left
                        · (try dsimp only at hSw); go_simp; (try with_reducible rfl)
                        try simp only [Act.put, List.setIfInBounds_toArray, List.set_cons_zero, List.set_cons_succ]
                        refine' wpAnyZ_takeA (i := 28) (v := ?_) (opAt rfl) (by kernel_rfl) (by kernel_rfl) (by kernel_rfl) (by kernel_rfl) (fun _ _ _ h => h) (by assumption) (by rfl) (fun w hSw => ?_) ?_
                        rotate_left
                        · (try dsimp only at hSw); go_simp; (try with_reducible rfl)
                        try simp only [Act.put, List.setIfInBounds_toArray, List.set_cons_zero, List.set_cons_succ]
                        refine' wpAnyZ_takeA (i := 29) (v := ?_) (opAt rfl) (by kernel_rfl) (by kernel_rfl) (by kernel_rfl) (by kernel_rfl) (fun _ _ _ h => h) (by assumption) (by rfl) (fun w hSw => ?_) ?_
                        rotate_left
                        · (try dsimp only at hSw); go_simp; (try with_reducible rfl)
                        try simp only [Act.put, List.setIfInBounds_toArray, List.set_cons_zero, List.set_cons_succ]
                        refine' wpAnyZ_takeA (i := 30) (v := ?_) (opAt rfl) (by kernel_rfl) (by kernel_rfl) (by kernel_rfl) (by kernel_rfl) (fun _ _ _ h => h) (by assumption) (by rfl) (fun w hSw => ?_) ?_
                        rotate_left
                        · (try dsimp only at hSw); go_simp; (try with_reducible rfl)
                        try simp only [Act.put, List.setIfInBounds_toArray, List.set_cons_zero, List.set_cons_succ]
                        refine' wpAnyZ_takeA (i := 31) (v := ?_) (opAt rfl) (by kernel_rfl) (by kernel_rfl) (by kernel_rfl) (by kernel_rfl) (fun _ _ _ h => h) (by assumption) (by rfl) (fun w hSw => ?_) ?_
                        rotate_left
                        · (try dsimp only at hSw); go_simp; (try with_reducible rfl)
                        try simp only [Act.put, List.setIfInBounds_toArray, List.set_cons_zero, List.set_cons_succ]
                        refine' wpAnyZ_takeA (i := 32) (v := ?_) (opAt rfl) (by kernel_rfl) (by kernel_rfl) (by kernel_rfl) (by kernel_rfl) (fun _ _ _ h => h) (by assumption) (by rfl) (fun w hSw => ?_) ?_
                        rotate_left
                        · (try dsimp only at hSw); go_simp; (try with_reducible rfl)
                        try simp only [Act.put, List.setIfInBounds_toArray, List.set_cons_zero, List.set_cons_succ]
                        refine' wpAnyZ_takeA (i := 33) (v := ?_) (opAt rfl) (by kernel_rfl) (by kernel_rfl) (by kernel_rfl) (by kernel_rfl) (fun _ _ _ h => h) (by assumption) (by rfl) (fun w hSw => ?_) ?_
                        rotate_left
                        · (try dsimp only at hSw); go_simp; (try with_reducible rfl)
                        try simp only [Act.put, List.setIfInBounds_toArray, List.set_cons_zero, List.set_cons_succ]
                        refine' wpAnyZ_takeA (i := 34) (v := ?_) (opAt rfl) (by kernel_rfl) (by kernel_rfl) (by kernel_rfl) (by kernel_rfl) (fun _ _ _ h => h) (by assumption) (by rfl) (fun w hSw => ?_) ?_
                        rotate_left
                        · (try dsimp only at hSw); go_simp; (try with_reducible rfl)
                        try simp only [Act.put, List.setIfInBounds_toArray, List.set_cons_zero, List.set_cons_succ]
                        refine' wpAnyZ_takeA (i := 36) (v := ?_) (opAt rfl) (by kernel_rfl) (by kernel_rfl) (by kernel_rfl) (by kernel_rfl) (fun _ _ _ h => h) (by assumption) (by rfl) (fun w hSw => ?_) ?_
                        rotate_left
                        · (try dsimp only at hSw); go_simp; (try with_reducible rfl)
                        try simp only [Act.put, List.setIfInBounds_toArray, List.set_cons_zero, List.set_cons_succ]
                        refine' wpAnyZ_takeA (i := 37) (v := ?_) (opAt rfl) (by kernel_rfl) (by kernel_rfl) (by kernel_rfl) (by kernel_rfl) (fun _ _ _ h => h) (by assumption) (by rfl) (fun w hSw => ?_) ?_
                        rotate_left
                        · (try dsimp only at hSw); go_simp; (try with_reducible rfl)
                        try simp only [Act.put, List.setIfInBounds_toArray, List.set_cons_zero, List.set_cons_succ]
                        refine wpAnyZ_ready (rs := [35]) (by kernel_rfl) (by simp) ?_
                        refine AllReadyZ.cons (opAt rfl) (fun K hK => ?_) ?_
                        · skip
                          go_simp
                          refine (RO.out _ _ _ M).mono ?_
                          rintro e wk ⟨rfl, hb1⟩
                          replace M := M.below hb1
                          replace R := R.below hb1
                          replace bc := bc.below hb1 bc.lt
                          replace B0 := B0.trans (hb1.mono B0.size)
                          clear hb1
                          try go_wp2_with fail
                          refine hK.out _ _ (by exact ⟨bc.cell 0, bc.cell 1, bc.cell 2, bc.cell 3, bc.cell 4, AT0.out _ _ R⟩) (fun hHeld => ?_)
                          clear hK K
                          try simp only [Act.put, List.setIfInBounds_toArray, List.set_cons_zero, List.set_cons_succ]
                          refine wpAnyZ_ready (rs := [38]) (by kernel_rfl) (by simp) ?_
                          refine AllReadyZ.cons (opAt rfl) (fun K hK => ?_) ?_
                          · skip
                            go_simp
                            refine (CV.out _).mono ?_
                            rintro e wl ⟨rfl, hb1⟩
                            replace M := M.below hb1
                            replace R := R.below hb1
                            replace bc := bc.below hb1 bc.lt
                            replace B0 := B0.trans (hb1.mono B0.size)
                            clear hb1
                            try go_wp2_with fail
                            refine hK.out _ _ (by exact ⟨bc.cell 0, bc.cell 1, bc.cell 2, bc.cell 3, bc.cell 4, AT0.out _ _ R⟩) (fun hHeld => ?_)
                            clear hK K
                            try simp only [Act.put, List.setIfInBounds_toArray, List.set_cons_zero, List.set_cons_succ]
                            refine' wpAnyZ_takeA (i := 39) (v := ?_) (opAt rfl) (by kernel_rfl) (by kernel_rfl) (by kernel_rfl) (by kernel_rfl) (fun _ _ _ h => h) (by assumption) (by rfl) (fun w hSw => ?_) ?_
                            rotate_left
                            · (try dsimp only at hSw); go_simp; (try with_reducible rfl)
                            try simp only [Act.put, List.setIfInBounds_toArray, List.set_cons_zero, List.set_cons_succ]
                            refine' wpAnyZ_takeA (i := 40) (v := ?_) (opAt rfl) (by kernel_rfl) (by kernel_rfl) (by kernel_rfl) (by kernel_rfl) (fun _ _ _ h => h) (by assumption) (by rfl) (fun w hSw => ?_) ?_
                            rotate_left
                            · (try dsimp only at hSw); go_simp; (try with_reducible rfl)
                            try simp only [Act.put, List.setIfInBounds_toArray, List.set_cons_zero, List.set_cons_succ]
                            refine' wpAnyZ_takeA (i := 41) (v := ?_) (opAt rfl) (by kernel_rfl) (by kernel_rfl) (by kernel_rfl) (by kernel_rfl) (fun _ _ _ h => h) (by assumption) (by rfl) (fun w hSw => ?_) ?_
                            rotate_left
                            · (try dsimp only at hSw); go_simp; (try with_reducible rfl)
                            try simp only [Act.put, List.setIfInBounds_toArray, List.set_cons_zero, List.set_cons_succ]
                            refine' wpAnyZ_takeA (i := 42) (v := ?_) (opAt rfl) (by kernel_rfl) (by kernel_rfl) (by kernel_rfl) (by kernel_rfl) (fun _ _ _ h => h) (by assumption) (by rfl) (fun w hSw => ?_) ?_
                            rotate_left
                            · (try dsimp only at hSw); go_simp; (try with_reducible rfl)
                            try simp only [Act.put, List.setIfInBounds_toArray, List.set_cons_zero, List.set_cons_succ]
                            refine' wpAnyZ_takeA (i := 43) (v := ?_) (opAt rfl) (by kernel_rfl) (by kernel_rfl) (by kernel_rfl) (by kernel_rfl) (fun _ _ _ h => h) (by assumption) (by rfl) (fun w hSw => ?_) ?_
                            rotate_left
                            · (try dsimp only at hSw); go_simp; (try with_reducible rfl)
                            try simp only [Act.put, List.setIfInBounds_toArray, List.set_cons_zero, List.set_cons_succ]
                            refine wpAnyZ_ready (rs := [44]) (by kernel_rfl) (by simp) ?_
                            refine AllReadyZ.cons (opAt rfl) (fun K hK => ?_) ?_
                            · skip
                              go_simp
                              refine (AW.out _ B0).mono ?_
                              rintro e wm ⟨rfl, hb1⟩
                              replace M := M.below hb1
                              replace R := R.below hb1
                              replace bc := bc.below hb1 bc.lt
                              replace B0 := B0.trans (hb1.mono B0.size)
                              clear hb1
                              try go_wp2_with fail
                              refine hK.out _ _ (by exact ⟨bc.cell 0, bc.cell 1, bc.cell 2, bc.cell 3, bc.cell 4, AT0.out _ _ R⟩) (fun hHeld => ?_)
                              clear hK K
                              try simp only [Act.put, List.setIfInBounds_toArray, List.set_cons_zero, List.set_cons_succ]
                              refine' wpAnyZ_takeA (i := 45) (v := ?_) (opAt rfl) (by kernel_rfl) (by kernel_rfl) (by kernel_rfl) (by kernel_rfl) (fun _ _ _ h => h) (by assumption) (by rfl) (fun w hSw => ?_) ?_
                              rotate_left
                              · (try dsimp only at hSw); go_simp; (try with_reducible rfl)
                              try simp only [Act.put, List.setIfInBounds_toArray, List.set_cons_zero, List.set_cons_succ]
                              refine' wpAnyZ_takeA (i := 46) (v := ?_) (opAt rfl) (by kernel_rfl) (by kernel_rfl) (by kernel_rfl) (by kernel_rfl) (fun _ _ _ h => h) (by assumption) (by rfl) (fun w hSw => ?_) ?_
                              rotate_left
                              · (try dsimp only at hSw); go_simp; (try with_reducible rfl)
                              try simp only [Act.put, List.setIfInBounds_toArray, List.set_cons_zero, List.set_cons_succ]
                              refine wpAnyZ_done (by kernel_rfl) ?_ _
                              go_wp2_with fail
                              go_ret
                              exact ⟨rfl, B0⟩
                            exact AllReadyZ.nil
                          exact AllReadyZ.nil
                        exact AllReadyZ.nil
                      exact AllReadyZ.nil
                    exact AllReadyZ.nil
                  exact AllReadyZ.nil
                exact AllReadyZ.nil
              exact AllReadyZ.nil
            exact AllReadyZ.nil
          exact AllReadyZ.nil
        exact AllReadyZ.nil
      · subst hhv
        go_wp2_with fail
        refine (FR.out _ _ _ M).mono ?_
        rintro e wf ⟨⟨Af, cf, rfl, of⟩, hb1⟩
        replace M := M.below hb1
        replace R := R.below hb1
        replace bc := bc.below hb1 bc.lt
        replace B0 := B0.trans (hb1.mono B0.size)
        clear hb1
        clear mc
        have mc := fun i => bc.cell i
        go_wp2_with fail
        refine (RF.out _ _ _ R).mono ?_
        rintro e wg ⟨⟨Ag, cg, rfl, og⟩, hb1⟩
        replace M := M.below hb1
        replace R := R.below hb1
        replace bc := bc.below hb1 bc.lt
        replace of := own_below of hb1
        replace B0 := B0.trans (hb1.mono B0.size)
        clear hb1
        clear mc
        go_wp2_with fail
        refine wp_region_heldZ [] (fun w' => w'.cell? ⟨w.heap.size, 0, none⟩ = some (.int .i64 s) ∧ w'.cell? ⟨w.heap.size, 1, none⟩ = some (.int .i64 t) ∧ w'.cell? ⟨w.heap.size, 2, none⟩ = some (.int .i64 f) ∧ w'.cell? ⟨w.heap.size, 3, none⟩ = some (.int .i64 l) ∧ w'.cell? ⟨w.heap.size, 4, none⟩ = some (.int .i64 p) ∧ w'.cell? ⟨g, q0, none⟩ = some (.int .u64 rt)) (by kernel_rfl) (by exact ⟨bc.cell 0, bc.cell 1, bc.cell 2, bc.cell 3, bc.cell 4, AT0.out _ _ R⟩) (fun hHeld => ?_)
        replace M := M.drew
        replace R := (show RefOk _ g _ from Blk.drew R)
        replace bc := bc.drew
        replace of := (show wg.drew.ownsRow _ _ _ _ _ _ from of)
        replace og := (show wg.drew.ownsRow _ _ _ _ _ _ from og)
        replace B0 := B0.drew
        generalize wg.drew = wx at *
        refine' wpAnyZ_takeA (i := 0) (v := ?_) (opAt rfl) (by kernel_rfl) (by kernel_rfl) (by kernel_rfl) (by kernel_rfl) (fun _ _ _ h => h) (by assumption) (by rfl) (fun w hSw => ?_) ?_
        rotate_left
        · (try dsimp only at hSw); go_simp; (try with_reducible rfl)
        try simp only [Act.put, List.setIfInBounds_toArray, List.set_cons_zero, List.set_cons_succ]
        refine' wpAnyZ_takeA (i := 1) (v := ?_) (opAt rfl) (by kernel_rfl) (by kernel_rfl) (by kernel_rfl) (by kernel_rfl) (fun _ _ _ h => h) (by assumption) (by rfl) (fun w hSw => ?_) ?_
        rotate_left
        · (try dsimp only at hSw); go_simp; (try with_reducible rfl)
        try simp only [Act.put, List.setIfInBounds_toArray, List.set_cons_zero, List.set_cons_succ]
        refine' wpAnyZ_takeA (i := 3) (v := ?_) (opAt rfl) (by kernel_rfl) (by kernel_rfl) (by kernel_rfl) (by kernel_rfl) (fun _ _ _ h => h) (by assumption) (by rfl) (fun w hSw => ?_) ?_
        rotate_left
        · (try dsimp only at hSw); go_simp; (try with_reducible rfl)
        try simp only [Act.put, List.setIfInBounds_toArray, List.set_cons_zero, List.set_cons_succ]
        refine' wpAnyZ_takeA (i := 4) (v := ?_) (opAt rfl) (by kernel_rfl) (by kernel_rfl) (by kernel_rfl) (by kernel_rfl) (fun _ _ _ h => h) (by assumption) (by rfl) (fun w hSw => ?_) ?_
        rotate_left
        · (try dsimp only at hSw); go_simp; (try with_reducible rfl)
        try simp only [Act.put, List.setIfInBounds_toArray, List.set_cons_zero, List.set_cons_succ]
        refine' wpAnyZ_takeA (i := 5) (v := ?_) (opAt rfl) (by kernel_rfl) (by kernel_rfl) (by kernel_rfl) (by kernel_rfl) (fun _ _ _ h => h) (by assumption) (by rfl) (fun w hSw => ?_) ?_
        rotate_left
        · (try dsimp only at hSw); go_simp; (try with_reducible rfl)
        try simp only [Act.put, List.setIfInBounds_toArray, List.set_cons_zero, List.set_cons_succ]
        refine wpAnyZ_ready (rs := [2]) (by kernel_rfl) (by simp) ?_
        refine AllReadyZ.cons (opAt rfl) (fun K hK => ?_) ?_
        · skip
          go_simp
          refine (NA.out _ M).mono ?_
          rintro e wn1 ⟨⟨nv, rfl, ⟨nk, nu, rfl, n1, n2⟩⟩, hb1⟩
          obtain ⟨N1, d1, rfl⟩ := n1.val
          obtain ⟨N2, d2, rfl⟩ := n2.val
          replace M := M.below hb1
          replace R := R.below hb1
          replace bc := bc.below hb1 bc.lt
          replace of := own_below of hb1
          replace og := own_below og hb1
          replace B0 := B0.trans (hb1.mono B0.size)
          clear hb1
          try go_wp2_with fail
          refine hK.out _ _ (by exact ⟨bc.cell 0, bc.cell 1, bc.cell 2, bc.cell 3, bc.cell 4, AT0.out _ _ R⟩) (fun hHeld => ?_)
          clear hK K
          try simp only [Act.put, List.setIfInBounds_toArray, List.set_cons_zero, List.set_cons_succ]
          refine wpAnyZ_ready (rs := [6]) (by kernel_rfl) (by simp) ?_
          refine AllReadyZ.cons (opAt rfl) (fun K hK => ?_) ?_
          · skip
            go_simp
            refine (NR.out _ R).mono ?_
            rintro e wn2 ⟨⟨rv, rfl, ⟨rk, ru, rfl, r1, r2⟩⟩, hb1⟩
            obtain ⟨N3, d3, rfl⟩ := r1.val
            obtain ⟨N4, d4, rfl⟩ := r2.val
            replace M := M.below hb1
            replace R := R.below hb1
            replace bc := bc.below hb1 bc.lt
            replace of := own_below of hb1
            replace og := own_below og hb1
            replace n1 := own_below n1 hb1
            replace n2 := own_below n2 hb1
            replace B0 := B0.trans (hb1.mono B0.size)
            clear hb1
            try go_wp2_with fail
            refine hK.out _ _ (by exact ⟨bc.cell 0, bc.cell 1, bc.cell 2, bc.cell 3, bc.cell 4, AT0.out _ _ R⟩) (fun hHeld => ?_)
            clear hK K
            try simp only [Act.put, List.setIfInBounds_toArray, List.set_cons_zero, List.set_cons_succ]
            refine wpAnyZ_ready (rs := [7]) (by kernel_rfl) (by simp) ?_
            refine AllReadyZ.cons (opAt rfl) (fun K hK => ?_) ?_
            · skip
              go_simp
              refine (SM0.out _ _ _ ⟨_, _, rfl, Sl.of_own n1, Sl.of_own n2⟩ ⟨_, _, rfl, Sl.of_own r1, Sl.of_own r2⟩).mono ?_
              rintro e ws3 ⟨rfl, hb1⟩
              clear n1 n2 r1 r2
              replace M := M.below hb1
              replace R := R.below hb1
              replace bc := bc.below hb1 bc.lt
              replace of := own_below of hb1
              replace og := own_below og hb1
              replace B0 := B0.trans (hb1.mono B0.size)
              clear hb1
              try go_wp2_with fail
              refine hK.out _ _ (by exact ⟨bc.cell 0, bc.cell 1, bc.cell 2, bc.cell 3, bc.cell 4, AT0.out _ _ R⟩) (fun hHeld => ?_)
              clear hK K
              try simp only [Act.put, List.setIfInBounds_toArray, List.set_cons_zero, List.set_cons_succ]
              refine' wpAnyZ_takeA (i := 8) (v := ?_) (opAt rfl) (by kernel_rfl) (by kernel_rfl) (by kernel_rfl) (by kernel_rfl) (fun _ _ _ h => h) (by assumption) (by rfl) (fun w hSw => ?_) ?_
              rotate_left
              · (try dsimp only at hSw); go_simp; (try with_reducible rfl)
              try simp only [Act.put, List.setIfInBounds_toArray, List.set_cons_zero, List.set_cons_succ]
              refine' wpAnyZ_takeA (i := 9) (v := ?_) (opAt rfl) (by kernel_rfl) (by kernel_rfl) (by kernel_rfl) (by kernel_rfl) (fun _ _ _ h => h) (by assumption) (by rfl) (fun w hSw => ?_) ?_
              rotate_left
              · (try dsimp only at hSw); go_simp; (try with_reducible rfl)
              try simp only [Act.put, List.setIfInBounds_toArray, List.set_cons_zero, List.set_cons_succ]
              refine' wpAnyZ_takeA (i := 10) (v := ?_) (opAt rfl) (by kernel_rfl) (by kernel_rfl) (by kernel_rfl) (by kernel_rfl) (fun _ _ _ h => h) (by assumption) (by rfl) (fun w hSw => ?_) ?_
              rotate_left
              · (try dsimp only at hSw); go_simp; (try with_reducible rfl)
              try simp only [Act.put, List.setIfInBounds_toArray, List.set_cons_zero, List.set_cons_succ]
              refine' wpAnyZ_takeA (i := 12) (v := ?_) (opAt rfl) (by kernel_rfl) (by kernel_rfl) (by kernel_rfl) (by kernel_rfl) (fun _ _ _ h => h) (by assumption) (by rfl) (fun w hSw => ?_) ?_
              rotate_left
              · (try dsimp only at hSw); go_simp; (try with_reducible rfl)
              try simp only [Act.put, List.setIfInBounds_toArray, List.set_cons_zero, List.set_cons_succ]
              refine wpAnyZ_ready (rs := [11]) (by kernel_rfl) (by simp) ?_
              refine AllReadyZ.cons (opAt rfl) (fun K hK => ?_) ?_
              · skip
                go_simp
                refine (HH1.out _ _ _ M).mono ?_
                rintro e wh ⟨rfl, hb1⟩
                replace M := M.below hb1
                replace R := R.below hb1
                replace bc := bc.below hb1 bc.lt
                replace of := own_below of hb1
                replace og := own_below og hb1
                replace B0 := B0.trans (hb1.mono B0.size)
                clear hb1
                try go_wp2_with fail
                refine hK.out _ _ (by exact ⟨bc.cell 0, bc.cell 1, bc.cell 2, bc.cell 3, bc.cell 4, AT0.out _ _ R⟩) (fun hHeld => ?_)
                clear hK K
                try simp only [Act.put, List.setIfInBounds_toArray, List.set_cons_zero, List.set_cons_succ]
                refine' wpAnyZ_takeA (i := 13) (v := ?_) (opAt rfl) (by kernel_rfl) (by kernel_rfl) (by kernel_rfl) (by kernel_rfl) (fun _ _ _ h => h) (by assumption) (by rfl) (fun w hSw => ?_) ?_
                rotate_left
                · (try dsimp only at hSw); go_simp; (try with_reducible rfl)
                try simp only [Act.put, List.setIfInBounds_toArray, List.set_cons_zero, List.set_cons_succ]
                refine' wpAnyZ_takeA (i := 14) (v := ?_) (opAt rfl) (by kernel_rfl) (by kernel_rfl) (by kernel_rfl) (by kernel_rfl) (fun _ _ _ h => h) (by assumption) (by rfl) (fun w hSw => ?_) ?_
                rotate_left
                · (try dsimp only at hSw); go_simp; (try with_reducible rfl)
                try simp only [Act.put, List.setIfInBounds_toArray, List.set_cons_zero, List.set_cons_succ]
                refine' wpAnyZ_takeA (i := 15) (v := ?_) (opAt rfl) (by kernel_rfl) (by kernel_rfl) (by kernel_rfl) (by kernel_rfl) (fun _ _ _ h => h) (by assumption) (by rfl) (fun w hSw => ?_) ?_
                rotate_left
                · (try dsimp only at hSw); go_simp; (try with_reducible rfl)
                try simp only [Act.put, List.setIfInBounds_toArray, List.set_cons_zero, List.set_cons_succ]
                refine' wpAnyZ_takeA (i := 16) (v := ?_) (opAt rfl) (by kernel_rfl) (by kernel_rfl) (by kernel_rfl) (by kernel_rfl) (fun _ _ _ h => h) (by assumption) (by rfl) (fun w hSw => ?_) ?_
                rotate_left
                · (try dsimp only at hSw); go_simp; (try with_reducible rfl)
                try simp only [Act.put, List.setIfInBounds_toArray, List.set_cons_zero, List.set_cons_succ]
                refine' wpAnyZ_takeA (i := 18) (v := ?_) (opAt rfl) (by kernel_rfl) (by kernel_rfl) (by kernel_rfl) (by kernel_rfl) (fun _ _ _ h => h) (by assumption) (by rfl) (fun w hSw => ?_) ?_
                rotate_left
                · (try dsimp only at hSw); go_simp; (try with_reducible rfl)
                try simp only [Act.put, List.setIfInBounds_toArray, List.set_cons_zero, List.set_cons_succ]
                refine' wpAnyZ_takeA (i := 19) (v := ?_) (opAt rfl) (by kernel_rfl) (by kernel_rfl) (by kernel_rfl) (by kernel_rfl) (fun _ _ _ h => h) (by assumption) (by rfl) (fun w hSw => ?_) ?_
                rotate_left
                · (try dsimp only at hSw); go_simp; (try with_reducible rfl)
                try simp only [Act.put, List.setIfInBounds_toArray, List.set_cons_zero, List.set_cons_succ]
                refine wpAnyZ_ready (rs := [17]) (by kernel_rfl) (by simp) ?_
                refine AllReadyZ.cons (opAt rfl) (fun K hK => ?_) ?_
                · skip
                  go_simp
                  refine (TR.out _ _ _ M).mono ?_
                  rintro e wt ⟨⟨At, ct, rfl, ot⟩, hb1⟩
                  replace M := M.below hb1
                  replace R := R.below hb1
                  replace bc := bc.below hb1 bc.lt
                  replace of := own_below of hb1
                  replace og := own_below og hb1
                  replace B0 := B0.trans (hb1.mono B0.size)
                  clear hb1
                  try go_wp2_with fail
                  refine hK.out _ _ (by exact ⟨bc.cell 0, bc.cell 1, bc.cell 2, bc.cell 3, bc.cell 4, AT0.out _ _ R⟩) (fun hHeld => ?_)
                  clear hK K
                  try simp only [Act.put, List.setIfInBounds_toArray, List.set_cons_zero, List.set_cons_succ]
                  refine wpAnyZ_ready (rs := [20]) (by kernel_rfl) (by simp) ?_
                  refine AllReadyZ.cons (opAt rfl) (fun K hK => ?_) ?_
                  · skip
                    go_simp
                    refine (RT.out _ _ _ R).mono ?_
                    rintro e wu ⟨⟨Au, cu, rfl, ou⟩, hb1⟩
                    replace M := M.below hb1
                    replace R := R.below hb1
                    replace bc := bc.below hb1 bc.lt
                    replace of := own_below of hb1
                    replace og := own_below og hb1
                    replace ot := own_below ot hb1
                    replace B0 := B0.trans (hb1.mono B0.size)
                    clear hb1
                    try go_wp2_with fail
                    refine hK.out _ _ (by exact ⟨bc.cell 0, bc.cell 1, bc.cell 2, bc.cell 3, bc.cell 4, AT0.out _ _ R⟩) (fun hHeld => ?_)
                    clear hK K
                    try simp only [Act.put, List.setIfInBounds_toArray, List.set_cons_zero, List.set_cons_succ]
                    refine wpAnyZ_ready (rs := [21]) (by kernel_rfl) (by simp) ?_
                    refine AllReadyZ.cons (opAt rfl) (fun K hK => ?_) ?_
                    · skip
                      go_simp
                      refine (IT.out _ _ _ (Nat.le_trans TLN.out (by omega)) _ (SlI.of_own ot) (SlI.of_own ou)).mono ?_
                      rintro e wi ⟨rfl, hb1⟩
                      clear ot ou
                      replace M := M.below hb1
                      replace R := R.below hb1
                      replace bc := bc.below hb1 bc.lt
                      replace of := own_below of hb1
                      replace og := own_below og hb1
                      replace B0 := B0.trans (hb1.mono B0.size)
                      clear hb1
                      try go_wp2_with fail
                      refine hK.out _ _ (by exact ⟨bc.cell 0, bc.cell 1, bc.cell 2, bc.cell 3, bc.cell 4, AT0.out _ _ R⟩) (fun hHeld => ?_)
                      clear hK K
                      try simp only [Act.put, List.setIfInBounds_toArray, List.set_cons_zero, List.set_cons_succ]
                      refine' wpAnyZ_takeA (i := 22) (v := ?_) (opAt rfl) (by kernel_rfl) (by kernel_rfl) (by kernel_rfl) (by kernel_rfl) (fun _ _ _ h => h) (by assumption) (by rfl) (fun w hSw => ?_) ?_
                      rotate_left
                      · (try dsimp only at hSw); go_simp; (try with_reducible rfl)
                      try simp only [Act.put, List.setIfInBounds_toArray, List.set_cons_zero, List.set_cons_succ]
                      refine' wpAnyZ_takeA (i := 23) (v := ?_) (opAt rfl) (by kernel_rfl) (by kernel_rfl) (by kernel_rfl) (by kernel_rfl) (fun _ _ _ h => h) (by assumption) (by rfl) (fun w hSw => ?_) ?_
                      rotate_left
                      · (try dsimp only at hSw); go_simp; (try with_reducible rfl)
                      try simp only [Act.put, List.setIfInBounds_toArray, List.set_cons_zero, List.set_cons_succ]
                      refine' wpAnyZ_takeA (i := 24) (v := ?_) (opAt rfl) (by kernel_rfl) (by kernel_rfl) (by kernel_rfl) (by kernel_rfl) (fun _ _ _ h => h) (by assumption) (by rfl) (fun w hSw => ?_) ?_
                      rotate_left
                      · (try dsimp only at hSw); go_simp; (try with_reducible rfl)
                      try simp only [Act.put, List.setIfInBounds_toArray, List.set_cons_zero, List.set_cons_succ]
                      refine' wpAnyZ_takeA (i := 25) (v := ?_) (opAt rfl) (by kernel_rfl) (by kernel_rfl) (by kernel_rfl) (by kernel_rfl) (fun _ _ _ h => h) (by assumption) (by rfl) (fun w hSw => ?_) ?_
                      rotate_left
                      · (try dsimp only at hSw); go_simp; (try with_reducible rfl)
                      try simp only [Act.put, List.setIfInBounds_toArray, List.set_cons_zero, List.set_cons_succ]
                      refine wpAnyZ_ready (rs := [26]) (by kernel_rfl) (by simp) ?_
                      refine AllReadyZ.cons (opAt rfl) (fun K hK => ?_) ?_
                      · skip
                        go_simp
                        refine (IT.out _ _ _ (Nat.le_trans HFL.out (by omega)) _ (SlI.of_own of) (SlI.of_own og)).mono ?_
                        rintro e wj ⟨rfl, hb1⟩
                        clear of og
                        replace M := M.below hb1
                        replace R := R.below hb1
                        replace bc := bc.below hb1 bc.lt
                        replace B0 := B0.trans (hb1.mono B0.size)
                        clear hb1
                        try go_wp2_with fail
                        refine hK.out _ _ (by exact ⟨bc.cell 0, bc.cell 1, bc.cell 2, bc.cell 3, bc.cell 4, AT0.out _ _ R⟩) (fun hHeld => ?_)
                        clear hK K
                        try simp only [Act.put, List.setIfInBounds_toArray, List.set_cons_zero, List.set_cons_succ]
                        refine' wpAnyZ_takeA (i := 27) (v := ?_) (opAt rfl) (by kernel_rfl) (by kernel_rfl) (by kernel_rfl) (by kernel_rfl) (fun _ _ _ h => h) (by assumption) (by rfl) (fun w hSw => ?_) ?_
                        rotate_left
                        · (try dsimp only at hSw); go_simp; (try with_reducible rfl)
                        try simp only [Act.put, List.setIfInBounds_toArray, List.set_cons_zero, List.set_cons_succ]
                        refine' wpAnyZ_takeA (i := 28) (v := ?_) (opAt rfl) (by kernel_rfl) (by kernel_rfl) (by kernel_rfl) (by kernel_rfl) (fun _ _ _ h => h) (by assumption) (by rfl) (fun w hSw => ?_) ?_
                        rotate_left
                        · (try dsimp only at hSw); go_simp; (try with_reducible rfl)
                        try simp only [Act.put, List.setIfInBounds_toArray, List.set_cons_zero, List.set_cons_succ]
                        refine' wpAnyZ_takeA (i := 29) (v := ?_) (opAt rfl) (by kernel_rfl) (by kernel_rfl) (by kernel_rfl) (by kernel_rfl) (fun _ _ _ h => h) (by assumption) (by rfl) (fun w hSw => ?_) ?_
                        rotate_left
                        · (try dsimp only at hSw); go_simp; (try with_reducible rfl)
                        try simp only [Act.put, List.setIfInBounds_toArray, List.set_cons_zero, List.set_cons_succ]
                        refine' wpAnyZ_takeA (i := 30) (v := ?_) (opAt rfl) (by kernel_rfl) (by kernel_rfl) (by kernel_rfl) (by kernel_rfl) (fun _ _ _ h => h) (by assumption) (by rfl) (fun w hSw => ?_) ?_
                        rotate_left
                        · (try dsimp only at hSw); go_simp; (try with_reducible rfl)
                        try simp only [Act.put, List.setIfInBounds_toArray, List.set_cons_zero, List.set_cons_succ]
                        refine' wpAnyZ_takeA (i := 31) (v := ?_) (opAt rfl) (by kernel_rfl) (by kernel_rfl) (by kernel_rfl) (by kernel_rfl) (fun _ _ _ h => h) (by assumption) (by rfl) (fun w hSw => ?_) ?_
                        rotate_left
                        · (try dsimp only at hSw); go_simp; (try with_reducible rfl)
                        try simp only [Act.put, List.setIfInBounds_toArray, List.set_cons_zero, List.set_cons_succ]
                        refine' wpAnyZ_takeA (i := 32) (v := ?_) (opAt rfl) (by kernel_rfl) (by kernel_rfl) (by kernel_rfl) (by kernel_rfl) (fun _ _ _ h => h) (by assumption) (by rfl) (fun w hSw => ?_) ?_
                        rotate_left
                        · (try dsimp only at hSw); go_simp; (try with_reducible rfl)
                        try simp only [Act.put, List.setIfInBounds_toArray, List.set_cons_zero, List.set_cons_succ]
                        refine' wpAnyZ_takeA (i := 33) (v := ?_) (opAt rfl) (by kernel_rfl) (by kernel_rfl) (by kernel_rfl) (by kernel_rfl) (fun _ _ _ h => h) (by assumption) (by rfl) (fun w hSw => ?_) ?_
                        rotate_left
                        · (try dsimp only at hSw); go_simp; (try with_reducible rfl)
                        try simp only [Act.put, List.setIfInBounds_toArray, List.set_cons_zero, List.set_cons_succ]
                        refine' wpAnyZ_takeA (i := 34) (v := ?_) (opAt rfl) (by kernel_rfl) (by kernel_rfl) (by kernel_rfl) (by kernel_rfl) (fun _ _ _ h => h) (by assumption) (by rfl) (fun w hSw => ?_) ?_
                        rotate_left
                        · (try dsimp only at hSw); go_simp; (try with_reducible rfl)
                        try simp only [Act.put, List.setIfInBounds_toArray, List.set_cons_zero, List.set_cons_succ]
                        refine' wpAnyZ_takeA (i := 36) (v := ?_) (opAt rfl) (by kernel_rfl) (by kernel_rfl) (by kernel_rfl) (by kernel_rfl) (fun _ _ _ h => h) (by assumption) (by rfl) (fun w hSw => ?_) ?_
                        rotate_left
                        · (try dsimp only at hSw); go_simp; (try with_reducible rfl)
                        try simp only [Act.put, List.setIfInBounds_toArray, List.set_cons_zero, List.set_cons_succ]
                        refine' wpAnyZ_takeA (i := 37) (v := ?_) (opAt rfl) (by kernel_rfl) (by kernel_rfl) (by kernel_rfl) (by kernel_rfl) (fun _ _ _ h => h) (by assumption) (by rfl) (fun w hSw => ?_) ?_
                        rotate_left
                        · (try dsimp only at hSw); go_simp; (try with_reducible rfl)
                        try simp only [Act.put, List.setIfInBounds_toArray, List.set_cons_zero, List.set_cons_succ]
                        refine wpAnyZ_ready (rs := [35]) (by kernel_rfl) (by simp) ?_
                        refine AllReadyZ.cons (opAt rfl) (fun K hK => ?_) ?_
                        · skip
                          go_simp
                          refine (RO.out _ _ _ M).mono ?_
                          rintro e wk ⟨rfl, hb1⟩
                          replace M := M.below hb1
                          replace R := R.below hb1
                          replace bc := bc.below hb1 bc.lt
                          replace B0 := B0.trans (hb1.mono B0.size)
                          clear hb1
                          try go_wp2_with fail
                          refine hK.out _ _ (by exact ⟨bc.cell 0, bc.cell 1, bc.cell 2, bc.cell 3, bc.cell 4, AT0.out _ _ R⟩) (fun hHeld => ?_)
                          clear hK K
                          try simp only [Act.put, List.setIfInBounds_toArray, List.set_cons_zero, List.set_cons_succ]
                          refine wpAnyZ_ready (rs := [38]) (by kernel_rfl) (by simp) ?_
                          refine AllReadyZ.cons (opAt rfl) (fun K hK => ?_) ?_
                          · skip
                            go_simp
                            refine (CV.out _).mono ?_
                            rintro e wl ⟨rfl, hb1⟩
                            replace M := M.below hb1
                            replace R := R.below hb1
                            replace bc := bc.below hb1 bc.lt
                            replace B0 := B0.trans (hb1.mono B0.size)
                            clear hb1
                            try go_wp2_with fail
                            refine hK.out _ _ (by exact ⟨bc.cell 0, bc.cell 1, bc.cell 2, bc.cell 3, bc.cell 4, AT0.out _ _ R⟩) (fun hHeld => ?_)
                            clear hK K
                            try simp only [Act.put, List.setIfInBounds_toArray, List.set_cons_zero, List.set_cons_succ]
                            refine' wpAnyZ_takeA (i := 39) (v := ?_) (opAt rfl) (by kernel_rfl) (by kernel_rfl) (by kernel_rfl) (by kernel_rfl) (fun _ _ _ h => h) (by assumption) (by rfl) (fun w hSw => ?_) ?_
                            rotate_left
                            · (try dsimp only at hSw); go_simp; (try with_reducible rfl)
                            try simp only [Act.put, List.setIfInBounds_toArray, List.set_cons_zero, List.set_cons_succ]
                            refine' wpAnyZ_takeA (i := 40) (v := ?_) (opAt rfl) (by kernel_rfl) (by kernel_rfl) (by kernel_rfl) (by kernel_rfl) (fun _ _ _ h => h) (by assumption) (by rfl) (fun w hSw => ?_) ?_
                            rotate_left
                            · (try dsimp only at hSw); go_simp; (try with_reducible rfl)
                            try simp only [Act.put, List.setIfInBounds_toArray, List.set_cons_zero, List.set_cons_succ]
                            refine' wpAnyZ_takeA (i := 41) (v := ?_) (opAt rfl) (by kernel_rfl) (by kernel_rfl) (by kernel_rfl) (by kernel_rfl) (fun _ _ _ h => h) (by assumption) (by rfl) (fun w hSw => ?_) ?_
                            rotate_left
                            · (try dsimp only at hSw); go_simp; (try with_reducible rfl)
                            try simp only [Act.put, List.setIfInBounds_toArray, List.set_cons_zero, List.set_cons_succ]
                            refine' wpAnyZ_takeA (i := 42) (v := ?_) (opAt rfl) (by kernel_rfl) (by kernel_rfl) (by kernel_rfl) (by kernel_rfl) (fun _ _ _ h => h) (by assumption) (by rfl) (fun w hSw => ?_) ?_
                            rotate_left
                            · (try dsimp only at hSw); go_simp; (try with_reducible rfl)
                            try simp only [Act.put, List.setIfInBounds_toArray, List.set_cons_zero, List.set_cons_succ]
                            refine' wpAnyZ_takeA (i := 43) (v := ?_) (opAt rfl) (by kernel_rfl) (by kernel_rfl) (by kernel_rfl) (by kernel_rfl) (fun _ _ _ h => h) (by assumption) (by rfl) (fun w hSw => ?_) ?_
                            rotate_left
                            · (try dsimp only at hSw); go_simp; (try with_reducible rfl)
                            try simp only [Act.put, List.setIfInBounds_toArray, List.set_cons_zero, List.set_cons_succ]
                            refine wpAnyZ_ready (rs := [44]) (by kernel_rfl) (by simp) ?_
                            refine AllReadyZ.cons (opAt rfl) (fun K hK => ?_) ?_
                            · skip
                              go_simp
                              refine (AW.out _ B0).mono ?_
                              rintro e wm ⟨rfl, hb1⟩
                              replace M := M.below hb1
                              replace R := R.below hb1
                              replace bc := bc.below hb1 bc.lt
                              replace B0 := B0.trans (hb1.mono B0.size)
                              clear hb1
                              try go_wp2_with fail
                              refine hK.out _ _ (by exact ⟨bc.cell 0, bc.cell 1, bc.cell 2, bc.cell 3, bc.cell 4, AT0.out _ _ R⟩) (fun hHeld => ?_)
                              clear hK K
                              try simp only [Act.put, List.setIfInBounds_toArray, List.set_cons_zero, List.set_cons_succ]
                              refine' wpAnyZ_takeA (i := 45) (v := ?_) (opAt rfl) (by kernel_rfl) (by kernel_rfl) (by kernel_rfl) (by kernel_rfl) (fun _ _ _ h => h) (by assumption) (by rfl) (fun w hSw => ?_) ?_
                              rotate_left
                              · (try dsimp only at hSw); go_simp; (try with_reducible rfl)
                              try simp only [Act.put, List.setIfInBounds_toArray, List.set_cons_zero, List.set_cons_succ]
                              refine' wpAnyZ_takeA (i := 46) (v := ?_) (opAt rfl) (by kernel_rfl) (by kernel_rfl) (by kernel_rfl) (by kernel_rfl) (fun _ _ _ h => h) (by assumption) (by rfl) (fun w hSw => ?_) ?_
                              rotate_left
                              · (try dsimp only at hSw); go_simp; (try with_reducible rfl)
                              try simp only [Act.put, List.setIfInBounds_toArray, List.set_cons_zero, List.set_cons_succ]
                              refine wpAnyZ_done (by kernel_rfl) ?_ _
                              go_wp2_with fail
                              go_ret
                              exact ⟨rfl, B0⟩
                            exact AllReadyZ.nil
                          exact AllReadyZ.nil
                        exact AllReadyZ.nil
                      exact AllReadyZ.nil
                    exact AllReadyZ.nil
                  exact AllReadyZ.nil
                exact AllReadyZ.nil
              exact AllReadyZ.nil
            exact AllReadyZ.nil
          exact AllReadyZ.nil
        exact AllReadyZ.nil
      · subst hhv
        go_wp2_with fail
        refine (FR.out _ _ _ M).mono ?_
        rintro e wf ⟨⟨Af, cf, rfl, of⟩, hb1⟩
        replace M := M.below hb1
        replace R := R.below hb1
        replace bc := bc.below hb1 bc.lt
        replace B0 := B0.trans (hb1.mono B0.size)
        clear hb1
        clear mc
        have mc := fun i => bc.cell i
        go_wp2_with fail
        refine (RF.out _ _ _ R).mono ?_
        rintro e wg ⟨⟨Ag, cg, rfl, og⟩, hb1⟩
        replace M := M.below hb1
        replace R := R.below hb1
        replace bc := bc.below hb1 bc.lt
        replace of := own_below of hb1
        replace B0 := B0.trans (hb1.mono B0.size)
        clear hb1
        clear mc
        go_wp2_with fail
        refine wp_region_heldZ [] (fun w' => w'.cell? ⟨w.heap.size, 0, none⟩ = some (.int .i64 s) ∧ w'.cell? ⟨w.heap.size, 1, none⟩ = some (.int .i64 t) ∧ w'.cell? ⟨w.heap.size, 2, none⟩ = some (.int .i64 f) ∧ w'.cell? ⟨w.heap.size, 3, none⟩ = some (.int .i64 l) ∧ w'.cell? ⟨w.heap.size, 4, none⟩ = some (.int .i64 p) ∧ w'.cell? ⟨g, q0, none⟩ = some (.int .u64 rt)) (by kernel_rfl) (by exact ⟨bc.cell 0, bc.cell 1, bc.cell 2, bc.cell 3, bc.cell 4, AT0.out _ _ R⟩) (fun hHeld => ?_)
        replace M := M.drew
        replace R := (show RefOk _ g _ from Blk.drew R)
        replace bc := bc.drew
        replace of := (show wg.drew.ownsRow _ _ _ _ _ _ from of)
        replace og := (show wg.drew.ownsRow _ _ _ _ _ _ from og)
        replace B0 := B0.drew
        generalize wg.drew = wx at *
        refine' wpAnyZ_takeA (i := 0) (v := ?_) (opAt rfl) (by kernel_rfl) (by kernel_rfl) (by kernel_rfl) (by kernel_rfl) (fun _ _ _ h => h) (by assumption) (by rfl) (fun w hSw => ?_) ?_
        rotate_left
        · (try dsimp only at hSw); go_simp; (try with_reducible rfl)
        try simp only [Act.put, List.setIfInBounds_toArray, List.set_cons_zero, List.set_cons_succ]
        refine' wpAnyZ_takeA (i := 1) (v := ?_) (opAt rfl) (by kernel_rfl) (by kernel_rfl) (by kernel_rfl) (by kernel_rfl) (fun _ _ _ h => h) (by assumption) (by rfl) (fun w hSw => ?_) ?_
        rotate_left
        · (try dsimp only at hSw); go_simp; (try with_reducible rfl)
        try simp only [Act.put, List.setIfInBounds_toArray, List.set_cons_zero, List.set_cons_succ]
        refine' wpAnyZ_takeA (i := 3) (v := ?_) (opAt rfl) (by kernel_rfl) (by kernel_rfl) (by kernel_rfl) (by kernel_rfl) (fun _ _ _ h => h) (by assumption) (by rfl) (fun w hSw => ?_) ?_
        rotate_left
        · (try dsimp only at hSw); go_simp; (try with_reducible rfl)
        try simp only [Act.put, List.setIfInBounds_toArray, List.set_cons_zero, List.set_cons_succ]
        refine' wpAnyZ_takeA (i := 4) (v := ?_) (opAt rfl) (by kernel_rfl) (by kernel_rfl) (by kernel_rfl) (by kernel_rfl) (fun _ _ _ h => h) (by assumption) (by rfl) (fun w hSw => ?_) ?_
        rotate_left
        · (try dsimp only at hSw); go_simp; (try with_reducible rfl)
        try simp only [Act.put, List.setIfInBounds_toArray, List.set_cons_zero, List.set_cons_succ]
        refine' wpAnyZ_takeA (i := 5) (v := ?_) (opAt rfl) (by kernel_rfl) (by kernel_rfl) (by kernel_rfl) (by kernel_rfl) (fun _ _ _ h => h) (by assumption) (by rfl) (fun w hSw => ?_) ?_
        rotate_left
        · (try dsimp only at hSw); go_simp; (try with_reducible rfl)
        try simp only [Act.put, List.setIfInBounds_toArray, List.set_cons_zero, List.set_cons_succ]
        refine wpAnyZ_ready (rs := [2]) (by kernel_rfl) (by simp) ?_
        refine AllReadyZ.cons (opAt rfl) (fun K hK => ?_) ?_
        · skip
          go_simp
          refine (NA.out _ M).mono ?_
          rintro e wn1 ⟨⟨nv, rfl, ⟨nk, nu, rfl, n1, n2⟩⟩, hb1⟩
          obtain ⟨N1, d1, rfl⟩ := n1.val
          obtain ⟨N2, d2, rfl⟩ := n2.val
          replace M := M.below hb1
          replace R := R.below hb1
          replace bc := bc.below hb1 bc.lt
          replace of := own_below of hb1
          replace og := own_below og hb1
          replace B0 := B0.trans (hb1.mono B0.size)
          clear hb1
          try go_wp2_with fail
          refine hK.out _ _ (by exact ⟨bc.cell 0, bc.cell 1, bc.cell 2, bc.cell 3, bc.cell 4, AT0.out _ _ R⟩) (fun hHeld => ?_)
          clear hK K
          try simp only [Act.put, List.setIfInBounds_toArray, List.set_cons_zero, List.set_cons_succ]
          refine wpAnyZ_ready (rs := [6]) (by kernel_rfl) (by simp) ?_
          refine AllReadyZ.cons (opAt rfl) (fun K hK => ?_) ?_
          · skip
            go_simp
            refine (NR.out _ R).mono ?_
            rintro e wn2 ⟨⟨rv, rfl, ⟨rk, ru, rfl, r1, r2⟩⟩, hb1⟩
            obtain ⟨N3, d3, rfl⟩ := r1.val
            obtain ⟨N4, d4, rfl⟩ := r2.val
            replace M := M.below hb1
            replace R := R.below hb1
            replace bc := bc.below hb1 bc.lt
            replace of := own_below of hb1
            replace og := own_below og hb1
            replace n1 := own_below n1 hb1
            replace n2 := own_below n2 hb1
            replace B0 := B0.trans (hb1.mono B0.size)
            clear hb1
            try go_wp2_with fail
            refine hK.out _ _ (by exact ⟨bc.cell 0, bc.cell 1, bc.cell 2, bc.cell 3, bc.cell 4, AT0.out _ _ R⟩) (fun hHeld => ?_)
            clear hK K
            try simp only [Act.put, List.setIfInBounds_toArray, List.set_cons_zero, List.set_cons_succ]
            refine wpAnyZ_ready (rs := [7]) (by kernel_rfl) (by simp) ?_
            refine AllReadyZ.cons (opAt rfl) (fun K hK => ?_) ?_
            · skip
              go_simp
              refine (SM0.out _ _ _ ⟨_, _, rfl, Sl.of_own n1, Sl.of_own n2⟩ ⟨_, _, rfl, Sl.of_own r1, Sl.of_own r2⟩).mono ?_
              rintro e ws3 ⟨rfl, hb1⟩
              clear n1 n2 r1 r2
              replace M := M.below hb1
              replace R := R.below hb1
              replace bc := bc.below hb1 bc.lt
              replace of := own_below of hb1
              replace og := own_below og hb1
              replace B0 := B0.trans (hb1.mono B0.size)
              clear hb1
              try go_wp2_with fail
              refine hK.out _ _ (by exact ⟨bc.cell 0, bc.cell 1, bc.cell 2, bc.cell 3, bc.cell 4, AT0.out _ _ R⟩) (fun hHeld => ?_)
              clear hK K
              try simp only [Act.put, List.setIfInBounds_toArray, List.set_cons_zero, List.set_cons_succ]
              refine' wpAnyZ_takeA (i := 8) (v := ?_) (opAt rfl) (by kernel_rfl) (by kernel_rfl) (by kernel_rfl) (by kernel_rfl) (fun _ _ _ h => h) (by assumption) (by rfl) (fun w hSw => ?_) ?_
              rotate_left
              · (try dsimp only at hSw); go_simp; (try with_reducible rfl)
              try simp only [Act.put, List.setIfInBounds_toArray, List.set_cons_zero, List.set_cons_succ]
              refine' wpAnyZ_takeA (i := 9) (v := ?_) (opAt rfl) (by kernel_rfl) (by kernel_rfl) (by kernel_rfl) (by kernel_rfl) (fun _ _ _ h => h) (by assumption) (by rfl) (fun w hSw => ?_) ?_
              rotate_left
              · (try dsimp only at hSw); go_simp; (try with_reducible rfl)
              try simp only [Act.put, List.setIfInBounds_toArray, List.set_cons_zero, List.set_cons_succ]
              refine' wpAnyZ_takeA (i := 10) (v := ?_) (opAt rfl) (by kernel_rfl) (by kernel_rfl) (by kernel_rfl) (by kernel_rfl) (fun _ _ _ h => h) (by assumption) (by rfl) (fun w hSw => ?_) ?_
              rotate_left
              · (try dsimp only at hSw); go_simp; (try with_reducible rfl)
              try simp only [Act.put, List.setIfInBounds_toArray, List.set_cons_zero, List.set_cons_succ]
              refine' wpAnyZ_takeA (i := 12) (v := ?_) (opAt rfl) (by kernel_rfl) (by kernel_rfl) (by kernel_rfl) (by kernel_rfl) (fun _ _ _ h => h) (by assumption) (by rfl) (fun w hSw => ?_) ?_
              rotate_left
              · (try dsimp only at hSw); go_simp; (try with_reducible rfl)
              try simp only [Act.put, List.setIfInBounds_toArray, List.set_cons_zero, List.set_cons_succ]
              refine wpAnyZ_ready (rs := [11]) (by kernel_rfl) (by simp) ?_
              refine AllReadyZ.cons (opAt rfl) (fun K hK => ?_) ?_
              · skip
                go_simp
                refine (HH1.out _ _ _ M).mono ?_
                rintro e wh ⟨rfl, hb1⟩
                replace M := M.below hb1
                replace R := R.below hb1
                replace bc := bc.below hb1 bc.lt
                replace of := own_below of hb1
                replace og := own_below og hb1
                replace B0 := B0.trans (hb1.mono B0.size)
                clear hb1
                try go_wp2_with fail
                refine hK.out _ _ (by exact ⟨bc.cell 0, bc.cell 1, bc.cell 2, bc.cell 3, bc.cell 4, AT0.out _ _ R⟩) (fun hHeld => ?_)
                clear hK K
                try simp only [Act.put, List.setIfInBounds_toArray, List.set_cons_zero, List.set_cons_succ]
                refine' wpAnyZ_takeA (i := 13) (v := ?_) (opAt rfl) (by kernel_rfl) (by kernel_rfl) (by kernel_rfl) (by kernel_rfl) (fun _ _ _ h => h) (by assumption) (by rfl) (fun w hSw => ?_) ?_
                rotate_left
                · (try dsimp only at hSw); go_simp; (try with_reducible rfl)
                try simp only [Act.put, List.setIfInBounds_toArray, List.set_cons_zero, List.set_cons_succ]
                refine' wpAnyZ_takeA (i := 14) (v := ?_) (opAt rfl) (by kernel_rfl) (by kernel_rfl) (by kernel_rfl) (by kernel_rfl) (fun _ _ _ h => h) (by assumption) (by rfl) (fun w hSw => ?_) ?_
                rotate_left
                · (try dsimp only at hSw); go_simp; (try with_reducible rfl)
                try simp only [Act.put, List.setIfInBounds_toArray, List.set_cons_zero, List.set_cons_succ]
                refine' wpAnyZ_takeA (i := 15) (v := ?_) (opAt rfl) (by kernel_rfl) (by kernel_rfl) (by kernel_rfl) (by kernel_rfl) (fun _ _ _ h => h) (by assumption) (by rfl) (fun w hSw => ?_) ?_
                rotate_left
                · (try dsimp only at hSw); go_simp; (try with_reducible rfl)
                try simp only [Act.put, List.setIfInBounds_toArray, List.set_cons_zero, List.set_cons_succ]
                refine' wpAnyZ_takeA (i := 16) (v := ?_) (opAt rfl) (by kernel_rfl) (by kernel_rfl) (by kernel_rfl) (by kernel_rfl) (fun _ _ _ h => h) (by assumption) (by rfl) (fun w hSw => ?_) ?_
                rotate_left
                · (try dsimp only at hSw); go_simp; (try with_reducible rfl)
                try simp only [Act.put, List.setIfInBounds_toArray, List.set_cons_zero, List.set_cons_succ]
                refine' wpAnyZ_takeA (i := 18) (v := ?_) (opAt rfl) (by kernel_rfl) (by kernel_rfl) (by kernel_rfl) (by kernel_rfl) (fun _ _ _ h => h) (by assumption) (by rfl) (fun w hSw => ?_) ?_
                rotate_left
                · (try dsimp only at hSw); go_simp; (try with_reducible rfl)
                try simp only [Act.put, List.setIfInBounds_toArray, List.set_cons_zero, List.set_cons_succ]
                refine' wpAnyZ_takeA (i := 19) (v := ?_) (opAt rfl) (by kernel_rfl) (by kernel_rfl) (by kernel_rfl) (by kernel_rfl) (fun _ _ _ h => h) (by assumption) (by rfl) (fun w hSw => ?_) ?_
                rotate_left
                · (try dsimp only at hSw); go_simp; (try with_reducible rfl)
                try simp only [Act.put, List.setIfInBounds_toArray, List.set_cons_zero, List.set_cons_succ]
                refine wpAnyZ_ready (rs := [17]) (by kernel_rfl) (by simp) ?_
                refine AllReadyZ.cons (opAt rfl) (fun K hK => ?_) ?_
                · skip
                  go_simp
                  refine (TR.out _ _ _ M).mono ?_
                  rintro e wt ⟨⟨At, ct, rfl, ot⟩, hb1⟩
                  replace M := M.below hb1
                  replace R := R.below hb1
                  replace bc := bc.below hb1 bc.lt
                  replace of := own_below of hb1
                  replace og := own_below og hb1
                  replace B0 := B0.trans (hb1.mono B0.size)
                  clear hb1
                  try go_wp2_with fail
                  refine hK.out _ _ (by exact ⟨bc.cell 0, bc.cell 1, bc.cell 2, bc.cell 3, bc.cell 4, AT0.out _ _ R⟩) (fun hHeld => ?_)
                  clear hK K
                  try simp only [Act.put, List.setIfInBounds_toArray, List.set_cons_zero, List.set_cons_succ]
                  refine wpAnyZ_ready (rs := [20]) (by kernel_rfl) (by simp) ?_
                  refine AllReadyZ.cons (opAt rfl) (fun K hK => ?_) ?_
                  · skip
                    go_simp
                    refine (RT.out _ _ _ R).mono ?_
                    rintro e wu ⟨⟨Au, cu, rfl, ou⟩, hb1⟩
                    replace M := M.below hb1
                    replace R := R.below hb1
                    replace bc := bc.below hb1 bc.lt
                    replace of := own_below of hb1
                    replace og := own_below og hb1
                    replace ot := own_below ot hb1
                    replace B0 := B0.trans (hb1.mono B0.size)
                    clear hb1
                    try go_wp2_with fail
                    refine hK.out _ _ (by exact ⟨bc.cell 0, bc.cell 1, bc.cell 2, bc.cell 3, bc.cell 4, AT0.out _ _ R⟩) (fun hHeld => ?_)
                    clear hK K
                    try simp only [Act.put, List.setIfInBounds_toArray, List.set_cons_zero, List.set_cons_succ]
                    refine wpAnyZ_ready (rs := [21]) (by kernel_rfl) (by simp) ?_
                    refine AllReadyZ.cons (opAt rfl) (fun K hK => ?_) ?_
                    · skip
                      go_simp
                      refine (IT.out _ _ _ (Nat.le_trans TLN.out (by omega)) _ (SlI.of_own ot) (SlI.of_own ou)).mono ?_
                      rintro e wi ⟨rfl, hb1⟩
                      clear ot ou
                      replace M := M.below hb1
                      replace R := R.below hb1
                      replace bc := bc.below hb1 bc.lt
                      replace of := own_below of hb1
                      replace og := own_below og hb1
                      replace B0 := B0.trans (hb1.mono B0.size)
                      clear hb1
                      try go_wp2_with fail
                      refine hK.out _ _ (by exact ⟨bc.cell 0, bc.cell 1, bc.cell 2, bc.cell 3, bc.cell 4, AT0.out _ _ R⟩) (fun hHeld => ?_)
                      clear hK K
                      try simp only [Act.put, List.setIfInBounds_toArray, List.set_cons_zero, List.set_cons_succ]
                      refine' wpAnyZ_takeA (i := 22) (v := ?_) (opAt rfl) (by kernel_rfl) (by kernel_rfl) (by kernel_rfl) (by kernel_rfl) (fun _ _ _ h => h) (by assumption) (by rfl) (fun w hSw => ?_) ?_
                      rotate_left
                      · (try dsimp only at hSw); go_simp; (try with_reducible rfl)
                      try simp only [Act.put, List.setIfInBounds_toArray, List.set_cons_zero, List.set_cons_succ]
                      refine' wpAnyZ_takeA (i := 23) (v := ?_) (opAt rfl) (by kernel_rfl) (by kernel_rfl) (by kernel_rfl) (by kernel_rfl) (fun _ _ _ h => h) (by assumption) (by rfl) (fun w hSw => ?_) ?_
                      rotate_left
                      · (try dsimp only at hSw); go_simp; (try with_reducible rfl)
                      try simp only [Act.put, List.setIfInBounds_toArray, List.set_cons_zero, List.set_cons_succ]
                      refine' wpAnyZ_takeA (i := 24) (v := ?_) (opAt rfl) (by kernel_rfl) (by kernel_rfl) (by kernel_rfl) (by kernel_rfl) (fun _ _ _ h => h) (by assumption) (by rfl) (fun w hSw => ?_) ?_
                      rotate_left
                      · (try dsimp only at hSw); go_simp; (try with_reducible rfl)
                      try simp only [Act.put, List.setIfInBounds_toArray, List.set_cons_zero, List.set_cons_succ]
                      refine' wpAnyZ_takeA (i := 25) (v := ?_) (opAt rfl) (by kernel_rfl) (by kernel_rfl) (by kernel_rfl) (by kernel_rfl) (fun _ _ _ h => h) (by assumption) (by rfl) (fun w hSw => ?_) ?_
                      rotate_left
                      · (try dsimp only at hSw); go_simp; (try with_reducible rfl)
                      try simp only [Act.put, List.setIfInBounds_toArray, List.set_cons_zero, List.set_cons_succ]
                      refine wpAnyZ_ready (rs := [26]) (by kernel_rfl) (by simp) ?_
                      refine AllReadyZ.cons (opAt rfl) (fun K hK => ?_) ?_
                      · skip
                        go_simp
                        refine (IT.out _ _ _ (Nat.le_trans HFL.out (by omega)) _ (SlI.of_own of) (SlI.of_own og)).mono ?_
                        rintro e wj ⟨rfl, hb1⟩
                        clear of og
                        replace M := M.below hb1
                        replace R := R.below hb1
                        replace bc := bc.below hb1 bc.lt
                        replace B0 := B0.trans (hb1.mono B0.size)
                        clear hb1
                        try go_wp2_with fail
                        refine hK.out _ _ (by exact ⟨bc.cell 0, bc.cell 1, bc.cell 2, bc.cell 3, bc.cell 4, AT0.out _ _ R⟩) (fun hHeld => ?_)
                        clear hK K
                        try simp only [Act.put, List.setIfInBounds_toArray, List.set_cons_zero, List.set_cons_succ]
                        refine' wpAnyZ_takeA (i := 27) (v := ?_) (opAt rfl) (by kernel_rfl) (by kernel_rfl) (by kernel_rfl) (by kernel_rfl) (fun _ _ _ h => h) (by assumption) (by rfl) (fun w hSw => ?_) ?_
                        rotate_left
                        · (try dsimp only at hSw); go_simp; (try with_reducible rfl)
                        try simp only [Act.put, List.setIfInBounds_toArray, List.set_cons_zero, List.set_cons_succ]
                        refine' wpAnyZ_takeA (i := 28) (v := ?_) (opAt rfl) (by kernel_rfl) (by kernel_rfl) (by kernel_rfl) (by kernel_rfl) (fun _ _ _ h => h) (by assumption) (by rfl) (fun w hSw => ?_) ?_
                        rotate_left
                        · (try dsimp only at hSw); go_simp; (try with_reducible rfl)
                        try simp only [Act.put, List.setIfInBounds_toArray, List.set_cons_zero, List.set_cons_succ]
                        refine' wpAnyZ_takeA (i := 29) (v := ?_) (opAt rfl) (by kernel_rfl) (by kernel_rfl) (by kernel_rfl) (by kernel_rfl) (fun _ _ _ h => h) (by assumption) (by rfl) (fun w hSw => ?_) ?_
                        rotate_left
                        · (try dsimp only at hSw); go_simp; (try with_reducible rfl)
                        try simp only [Act.put, List.setIfInBounds_toArray, List.set_cons_zero, List.set_cons_succ]
                        refine' wpAnyZ_takeA (i := 30) (v := ?_) (opAt rfl) (by kernel_rfl) (by kernel_rfl) (by kernel_rfl) (by kernel_rfl) (fun _ _ _ h => h) (by assumption) (by rfl) (fun w hSw => ?_) ?_
                        rotate_left
                        · (try dsimp only at hSw); go_simp; (try with_reducible rfl)
                        try simp only [Act.put, List.setIfInBounds_toArray, List.set_cons_zero, List.set_cons_succ]
                        refine' wpAnyZ_takeA (i := 31) (v := ?_) (opAt rfl) (by kernel_rfl) (by kernel_rfl) (by kernel_rfl) (by kernel_rfl) (fun _ _ _ h => h) (by assumption) (by rfl) (fun w hSw => ?_) ?_
                        rotate_left
                        · (try dsimp only at hSw); go_simp; (try with_reducible rfl)
                        try simp only [Act.put, List.setIfInBounds_toArray, List.set_cons_zero, List.set_cons_succ]
                        refine' wpAnyZ_takeA (i := 32) (v := ?_) (opAt rfl) (by kernel_rfl) (by kernel_rfl) (by kernel_rfl) (by kernel_rfl) (fun _ _ _ h => h) (by assumption) (by rfl) (fun w hSw => ?_) ?_
                        rotate_left
                        · (try dsimp only at hSw); go_simp; (try with_reducible rfl)
                        try simp only [Act.put, List.setIfInBounds_toArray, List.set_cons_zero, List.set_cons_succ]
                        refine' wpAnyZ_takeA (i := 33) (v := ?_) (opAt rfl) (by kernel_rfl) (by kernel_rfl) (by kernel_rfl) (by kernel_rfl) (fun _ _ _ h => h) (by assumption) (by rfl) (fun w hSw => ?_) ?_
                        rotate_left
                        · (try dsimp only at hSw); go_simp; (try with_reducible rfl)
                        try simp only [Act.put, List.setIfInBounds_toArray, List.set_cons_zero, List.set_cons_succ]
                        refine' wpAnyZ_takeA (i := 34) (v := ?_) (opAt rfl) (by kernel_rfl) (by kernel_rfl) (by kernel_rfl) (by kernel_rfl) (fun _ _ _ h => h) (by assumption) (by rfl) (fun w hSw => ?_) ?_
                        rotate_left
                        · (try dsimp only at hSw); go_simp; (try with_reducible rfl)
                        try simp only [Act.put, List.setIfInBounds_toArray, List.set_cons_zero, List.set_cons_succ]
                        refine' wpAnyZ_takeA (i := 36) (v := ?_) (opAt rfl) (by kernel_rfl) (by kernel_rfl) (by kernel_rfl) (by kernel_rfl) (fun _ _ _ h => h) (by assumption) (by rfl) (fun w hSw => ?_) ?_
                        rotate_left
                        · (try dsimp only at hSw); go_simp; (try with_reducible rfl)
                        try simp only [Act.put, List.setIfInBounds_toArray, List.set_cons_zero, List.set_cons_succ]
                        refine' wpAnyZ_takeA (i := 37) (v := ?_) (opAt rfl) (by kernel_rfl) (by kernel_rfl) (by kernel_rfl) (by kernel_rfl) (fun _ _ _ h => h) (by assumption) (by rfl) (fun w hSw => ?_) ?_
                        rotate_left
                        · (try dsimp only at hSw); go_simp; (try with_reducible rfl)
                        try simp only [Act.put, List.setIfInBounds_toArray, List.set_cons_zero, List.set_cons_succ]
                        refine wpAnyZ_ready (rs := [35]) (by kernel_rfl) (by simp) ?_
                        refine AllReadyZ.cons (opAt rfl) (fun K hK => ?_) ?_
                        · skip
                          go_simp
                          refine (RO.out _ _ _ M).mono ?_
                          rintro e wk ⟨rfl, hb1⟩
                          replace M := M.below hb1
                          replace R := R.below hb1
                          replace bc := bc.below hb1 bc.lt
                          replace B0 := B0.trans (hb1.mono B0.size)
                          clear hb1
                          try go_wp2_with fail
                          refine hK.out _ _ (by exact ⟨bc.cell 0, bc.cell 1, bc.cell 2, bc.cell 3, bc.cell 4, AT0.out _ _ R⟩) (fun hHeld => ?_)
                          clear hK K
                          try simp only [Act.put, List.setIfInBounds_toArray, List.set_cons_zero, List.set_cons_succ]
                          refine wpAnyZ_ready (rs := [38]) (by kernel_rfl) (by simp) ?_
                          refine AllReadyZ.cons (opAt rfl) (fun K hK => ?_) ?_
                          · skip
                            go_simp
                            refine (CV.out _).mono ?_
                            rintro e wl ⟨rfl, hb1⟩
                            replace M := M.below hb1
                            replace R := R.below hb1
                            replace bc := bc.below hb1 bc.lt
                            replace B0 := B0.trans (hb1.mono B0.size)
                            clear hb1
                            try go_wp2_with fail
                            refine hK.out _ _ (by exact ⟨bc.cell 0, bc.cell 1, bc.cell 2, bc.cell 3, bc.cell 4, AT0.out _ _ R⟩) (fun hHeld => ?_)
                            clear hK K
                            try simp only [Act.put, List.setIfInBounds_toArray, List.set_cons_zero, List.set_cons_succ]
                            refine' wpAnyZ_takeA (i := 39) (v := ?_) (opAt rfl) (by kernel_rfl) (by kernel_rfl) (by kernel_rfl) (by kernel_rfl) (fun _ _ _ h => h) (by assumption) (by rfl) (fun w hSw => ?_) ?_
                            rotate_left
                            · (try dsimp only at hSw); go_simp; (try with_reducible rfl)
                            try simp only [Act.put, List.setIfInBounds_toArray, List.set_cons_zero, List.set_cons_succ]
                            refine' wpAnyZ_takeA (i := 40) (v := ?_) (opAt rfl) (by kernel_rfl) (by kernel_rfl) (by kernel_rfl) (by kernel_rfl) (fun _ _ _ h => h) (by assumption) (by rfl) (fun w hSw => ?_) ?_
                            rotate_left
                            · (try dsimp only at hSw); go_simp; (try with_reducible rfl)
                            try simp only [Act.put, List.setIfInBounds_toArray, List.set_cons_zero, List.set_cons_succ]
                            refine' wpAnyZ_takeA (i := 41) (v := ?_) (opAt rfl) (by kernel_rfl) (by kernel_rfl) (by kernel_rfl) (by kernel_rfl) (fun _ _ _ h => h) (by assumption) (by rfl) (fun w hSw => ?_) ?_
                            rotate_left
                            · (try dsimp only at hSw); go_simp; (try with_reducible rfl)
                            try simp only [Act.put, List.setIfInBounds_toArray, List.set_cons_zero, List.set_cons_succ]
                            refine' wpAnyZ_takeA (i := 42) (v := ?_) (opAt rfl) (by kernel_rfl) (by kernel_rfl) (by kernel_rfl) (by kernel_rfl) (fun _ _ _ h => h) (by assumption) (by rfl) (fun w hSw => ?_) ?_
                            rotate_left
                            · (try dsimp only at hSw); go_simp; (try with_reducible rfl)
                            try simp only [Act.put, List.setIfInBounds_toArray, List.set_cons_zero, List.set_cons_succ]
                            refine' wpAnyZ_takeA (i := 43) (v := ?_) (opAt rfl) (by kernel_rfl) (by kernel_rfl) (by kernel_rfl) (by kernel_rfl) (fun _ _ _ h => h) (by assumption) (by rfl) (fun w hSw => ?_) ?_
                            rotate_left
                            · (try dsimp only at hSw); go_simp; (try with_reducible rfl)
                            try simp only [Act.put, List.setIfInBounds_toArray, List.set_cons_zero, List.set_cons_succ]
                            refine wpAnyZ_ready (rs := [44]) (by kernel_rfl) (by simp) ?_
                            refine AllReadyZ.cons (opAt rfl) (fun K hK => ?_) ?_
                            · skip
                              go_simp
                              refine (AW.out _ B0).mono ?_
                              rintro e wm ⟨rfl, hb1⟩
                              replace M := M.below hb1
                              replace R := R.below hb1
                              replace bc := bc.below hb1 bc.lt
                              replace B0 := B0.trans (hb1.mono B0.size)
                              clear hb1
                              try go_wp2_with fail
                              refine hK.out _ _ (by exact ⟨bc.cell 0, bc.cell 1, bc.cell 2, bc.cell 3, bc.cell 4, AT0.out _ _ R⟩) (fun hHeld => ?_)
                              clear hK K
                              try simp only [Act.put, List.setIfInBounds_toArray, List.set_cons_zero, List.set_cons_succ]
                              refine' wpAnyZ_takeA (i := 45) (v := ?_) (opAt rfl) (by kernel_rfl) (by kernel_rfl) (by kernel_rfl) (by kernel_rfl) (fun _ _ _ h => h) (by assumption) (by rfl) (fun w hSw => ?_) ?_
                              rotate_left
                              · (try dsimp only at hSw); go_simp; (try with_reducible rfl)
                              try simp only [Act.put, List.setIfInBounds_toArray, List.set_cons_zero, List.set_cons_succ]
                              refine' wpAnyZ_takeA (i := 46) (v := ?_) (opAt rfl) (by kernel_rfl) (by kernel_rfl) (by kernel_rfl) (by kernel_rfl) (fun _ _ _ h => h) (by assumption) (by rfl) (fun w hSw => ?_) ?_
                              rotate_left
                              · (try dsimp only at hSw); go_simp; (try with_reducible rfl)
                              try simp only [Act.put, List.setIfInBounds_toArray, List.set_cons_zero, List.set_cons_succ]
                              refine wpAnyZ_done (by kernel_rfl) ?_ _
                              go_wp2_with fail
                              go_ret
                              exact ⟨rfl, B0⟩
                            exact AllReadyZ.nil
                          exact AllReadyZ.nil
                        exact AllReadyZ.nil
                      exact AllReadyZ.nil
                    exact AllReadyZ.nil
                  exact AllReadyZ.nil
                exact AllReadyZ.nil
              exact AllReadyZ.nil
            exact AllReadyZ.nil
          exact AllReadyZ.nil
        exact AllReadyZ.nil
set_option maxRecDepth 100000 in
theorem arenaTells_lifted (os : Os) (started : os.Started) (H : Type) (enc : TypeId × Value → H) :
    ReturnsInHanded {} Tryd.checked os 3 .any (fun w args => (Rows.arenaTellsSpec.pre enc Tryd.prog Tryd.f3 [] false w args ∧ laidMetH Tryd.prog laid2 w) ∧ sizedMet enc Tryd.prog Tryd.f3 (OpenSpec.ofChange Rows.arenaTellsSpec) false w args) (Rows.arenaTellsSpec.post enc Tryd.prog Tryd.f3 false true false false) := by
  refine lift started 3 (by kernel_rfl) Tryd.func3 rfl rfl (fun ds hl => ?_) (by kernel_rfl) rfl #[.agg #[.int .i64 0, .int .i64 0, .int .i64 0, .int .i64 0, .int .i64 0], .slice none 0 0, .int .i64 0] (by kernel_rfl) (by kernel_rfl) (by kernel_rfl) ?_
  · match ds, hl with
    | [_, _, _], _ => rfl
  intro W base args ds ps hT hval0 hA0 hlt
  have hval : ∀ (j : Nat) t v, Tryd.f3.params[j]? = some t → args[j]? = some v → Value.okWide Tryd.prog W .any base t v := hval0
  have hA : DataW.TrodAll enc Tryd.prog W 0 (fun _ => true) true Tryd.f3.params.toList args.toList ds ps := hA0
  rw [Tryd.params3] at hA hval
  clear hA0 hval0
  obtain ⟨v0, v1, v2, d0, d1, d2, p0, p1, p2, rfl, rfl, rfl, h0, h1, h2⟩ := trodAll_three hA
  obtain ⟨s, t, f, l, p, rfl, _⟩ := open_five Tryd.underlying23 (by kernel_rfl) (by kernel_rfl) Tryd.underlying3 Tryd.underlying3 Tryd.underlying3 Tryd.underlying3 Tryd.underlying3 (hval 0 _ _ rfl rfl) h0
  obtain ⟨A, n, c, l0, rfl, hnc, hcm, hl, hr, hw⟩ := open_wris64 (B := W.heap.size) (hval 1 _ _ rfl rfl) h1 (fun p hp => hlt p (by simp [hp])) (fun _ => rfl)
  obtain ⟨a, rfl, rfl, rfl, w1⟩ := open_int Tryd.underlying3 (hval 2 _ _ rfl rfl) h2
  by_cases h1 : (300 : Int) < n
  · exact tells_far s t f l p a A n c W hT h1
  cases hc : cfgOk s t f l p with
  | false => exact tells_no s t f l p a A n c W hT h1 hc
  | true =>
    by_cases h2 : 5000 < laySize s t f
    · exact tells_big s t f l p a A n c W hT h1 (by unfold rSize; rw [if_pos hc]; exact h2)
    · exact tells_yes s t f l p a A n c l0 W hT h1 hc (by omega) hr hw (I64.of_wf w1)
theorem arenaTells_row : Rows.ArenaTellsSaid :=
  OpenClaim.holds_of_wide 3 Tryd.f3 rfl rfl rfl rfl rfl rfl rfl ⟨rfl, rfl, rfl, rfl, rfl⟩ rfl rfl rfl rfl rfl (by kernel_rfl) Tryd.func3 (by kernel_rfl)
    (of_decide_eq_true (by kernel_rfl)) (by unfold Func.isWrapper; first | (rw [if_pos (by decide +kernel)]; kernel_rfl) | (rw [if_neg (by decide +kernel)]; exact ⟨rfl, rfl⟩))
    (fun os started H enc _ => arenaTells_lifted os started H enc)
theorem arenaTells_holds : Rows.ArenaTellsCardSaid :=
  Claim7.holds_tied_plain_at .later [] [.listed, .data] true Rows.arenaTellsCard.stood.harness false
    arenaTells_row (fun _ h => by cases h) (by kernel_rfl) (fun _ h => by cases h) arenaTells_row_tie rfl ⟨rfl, rfl⟩ (by kernel_rfl) rfl
    (fun f fn hf hfn => by
      obtain rfl : f = 3 := Option.some.inj ((show Tryd.prog.funcNamed "gleaning/gleaninglaw10.ArenaTells" = some 3 by kernel_rfl).symm.trans hf) |>.symm
      obtain rfl : fn = Tryd.f3 := (Option.some.inj (Tryd.func3.symm.trans hfn)).symm
      exact ⟨by kernel_rfl, fun j t ht => by
        rw [Tryd.params3] at ht
        exact no_stand_in (by kernel_rfl) j t ht⟩)
    (by kernel_rfl)
#print axioms arenaTells_holds
end Go.Proofs.YtegldbhabeoboaaDoor
