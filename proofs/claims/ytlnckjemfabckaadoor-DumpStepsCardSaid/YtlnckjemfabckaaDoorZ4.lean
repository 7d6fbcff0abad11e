/-
  The slots that come of a handle, as a list; arena.below.
-/
import Derived.Test.YtlnckjemfabckaaDoorZ3
namespace Go.Proofs.YtlnckjemfabckaaDoor
open Go.RowKit Go.Shelf Go.Maps
attribute [local go_sem] Oper.semAt_some

/-- The slots that came, and those that come of a handle. -/
def comeN (nd : Int → Bool × List Int) (s : Int) : Nat → Int → List Int → List Int
  | 0, _, l => l
  | n + 1, h, l => if hrt h s = true ∧ hsl h ∉ l then (if (nd (hsl h)).1 = true then (nd (hsl h)).2.foldl (fun l c => comeN nd s n c l) (l ++ [hsl h]) else l ++ [hsl h]) else l
def ndOf (ws : List Int) (t f k : Int) : Bool × List Int := (nodI ws t f k, nodV ws t f k)
theorem hrt_slot {h s : Int} (hr : hrt h s = true) : 1 ≤ hsl h ∧ hsl h ≤ s := by
  unfold hrt at hr
  simp only [Bool.and_eq_true, decide_eq_true_eq] at hr
  exact ⟨hr.1.1, hr.1.2⟩
theorem nice_le {s : Int} {l : List Int} (h : Nice s l) (hs : 0 ≤ s) : l.length ≤ s.toNat := nice_len s.toNat l (by rw [Int.toNat_of_nonneg hs]; exact h)
theorem comeN_nice (nd : Int → Bool × List Int) (s : Int) : ∀ (n : Nat) (h : Int) (l : List Int), Nice s l → Nice s (comeN nd s n h l) ∧ l.length ≤ (comeN nd s n h l).length
  | 0, h, l, hl => ⟨hl, Nat.le_refl _⟩
  | n + 1, h, l, hl => by
    unfold comeN
    split
    next hc =>
      have h1 := nice_snoc hl (hrt_slot hc.1) hc.2
      have h2 : l.length ≤ (l ++ [hsl h]).length := by simp
      split
      · have key : ∀ (vs : List Int) (l' : List Int), Nice s l' → Nice s (vs.foldl (fun l c => comeN nd s n c l) l') ∧ l'.length ≤ (vs.foldl (fun l c => comeN nd s n c l) l').length := by
          intro vs
          induction vs with
          | nil => exact fun l' h' => ⟨h', Nat.le_refl _⟩
          | cons v vs ih =>
            intro l' h'
            have a := comeN_nice nd s n v l' h'
            have b := ih _ a.1
            exact ⟨b.1, Nat.le_trans a.2 b.2⟩
        have k := key (nd (hsl h)).2 _ h1
        exact ⟨k.1, Nat.le_trans h2 k.2⟩
      · exact ⟨h1, h2⟩
    · exact ⟨hl, Nat.le_refl _⟩
/-- What has come behind k children. -/
def comesK (nd : Int → Bool × List Int) (s : Int) (n : Nat) (vs : List Int) (l : List Int) (k : Nat) : List Int := (vs.take k).foldl (fun l c => comeN nd s n c l) l
theorem comesK_zero (nd : Int → Bool × List Int) (s : Int) (n : Nat) (vs l : List Int) : comesK nd s n vs l 0 = l := rfl
theorem comesK_succ (nd : Int → Bool × List Int) (s : Int) (n : Nat) (vs l : List Int) (k : Nat) (hk : k < vs.length) : comesK nd s n vs l (k + 1) = comeN nd s n vs[k] (comesK nd s n vs l k) := by
  unfold comesK
  rw [List.take_add_one, List.getElem?_eq_getElem hk, List.foldl_append]
  rfl
theorem comesK_all (nd : Int → Bool × List Int) (s : Int) (n : Nat) (vs l : List Int) : comesK nd s n vs l vs.length = vs.foldl (fun l c => comeN nd s n c l) l := by
  unfold comesK
  rw [List.take_length]
theorem comesK_nice {nd : Int → Bool × List Int} {s : Int} {n : Nat} {vs l : List Int} (hl : Nice s l) : ∀ k, k ≤ vs.length → Nice s (comesK nd s n vs l k) ∧ l.length ≤ (comesK nd s n vs l k).length
  | 0, _ => ⟨hl, Nat.le_refl _⟩
  | k + 1, hk => by
    have a := comesK_nice (nd := nd) (s := s) (n := n) (vs := vs) hl k (Nat.le_of_succ_le hk)
    rw [comesK_succ nd s n vs l k (by omega)]
    have b := comeN_nice nd s n vs[k] _ a.1
    exact ⟨b.1, Nat.le_trans a.2 b.2⟩
theorem rowL_w64 {ws : List Int} (h : AllW64 ws) (g : Nat → Int) (n : Nat) : ∀ x ∈ rowL ws g n, W64 x := by
  intro x hx
  unfold rowL at hx
  obtain ⟨i, _, rfl⟩ := List.mem_map.1 hx
  exact wGet_w64 h _
theorem MemOk.keepX {w w' : World} {gm gw lp : Nat} {s t f l p : Int} {ws : List Int} (h : MemOk w gm gw s t f l p ws) (hk : KeepX lp w w') : MemOk w' gm gw s t f l p ws :=
  ⟨hk.same _ _ h.1 ⟨by decide, by decide⟩, hk.same _ _ h.2.1 ⟨by decide, by decide⟩, h.2.2⟩
theorem MemOk.part {w w' : World} {gm gw n bm : Nat} {s t f l p : Int} {ws : List Int} (h : MemOk w gm gw s t f l p ws) (hk : PartN n bm w w') (h1 : gm ≠ bm) (h2 : gw ≠ bm) : MemOk w' gm gw s t f l p ws :=
  ⟨hk.same _ _ h.1 h1 (.inr rfl), hk.same _ _ h.2.1 h2 (.inr rfl), h.2.2⟩
theorem MapInt.keepX {w w' : World} {b n lp : Nat} {f : Int → Bool} (h : MapInt w b n f) (hk : KeepX lp w w') : MapInt w' b n f := by
  obtain ⟨D, hi, ⟨es, cl, hh, r⟩, ha⟩ := h
  exact ⟨D, hi, ⟨es, cl, hk.same _ _ hh trivial, r⟩, ha⟩
theorem MapInt.putObj {w : World} {b n k : Nat} {f : Int → Bool} (h : MapInt w b n f) (o : Obj) (hk : b ≠ k) : MapInt (w.putObj k o) b n f := by
  obtain ⟨D, hi, ⟨es, cl, hh, r⟩, ha⟩ := h
  exact ⟨D, hi, ⟨es, cl, (World.putObj_heap_other hk).trans hh, r⟩, ha⟩
theorem MapInt.mark {w : World} {b n : Nat} {f : Int → Bool} (h : MapInt w b n f) (hn : n < maxLen) (k : Int) (hk : (Lit.int .i64 k).wf = true) :
    ∃ w', (Instr.mapUpdate 92 (.map (some b)) (.int .i64 k) (.bool true)).run Tryd.prog w = .ok () w' ∧ MapInt w' b (n + 1) (fun j => if j = k then true else f j) ∧ w.grownBy w' (some b) := by
  obtain ⟨D, hi, ho, ha⟩ := h
  obtain ⟨w', hrun, h1, h2⟩ := ho.update lawI64 Tryd.underlying92 hn (keyOf_int_mk Tryd.underlying3 hk) (plainElem_bool Tryd.underlying4 true)
  refine ⟨w', hrun, ⟨_, hi.put _ _, h1, fun j hj => ?_⟩, h2⟩
  rw [atKey_putI hi]
  by_cases hjk : j = k
  · simp [hjk]
  · simp only [if_neg hjk]
    exact ha j hj
theorem MapInt.blk_ne {w : World} {b n g : Nat} {f : Int → Bool} {t : TypeId} {cs : Array Value} (h : MapInt w b n f) (hb : Blk w g t cs) : g ≠ b := by
  obtain ⟨D, hi, ⟨es, cl, hh, r⟩, ha⟩ := h
  rintro rfl
  rw [show w.heap[g]? = _ from hb] at hh
  cases hh
theorem KeepX.blk {w w' : World} {lp g : Nat} {t : TypeId} {cs : Array Value} (hk : KeepX lp w w') (h : Blk w g t cs) (h1 : t ≠ 3) (h2 : t ≠ 66) : Blk w' g t cs := hk.same _ _ h ⟨h1, h2⟩
theorem KeepX.own {lp B s k : Nat} {W W' : World} {e : TypeId} {xs : List Value} {v : Value} (hp : KeepX lp W W') (h : W.ownsRow B e s v k xs) (h1 : e ≠ 3) (h2 : e ≠ 66) : W'.ownsRow B e s v k xs := by
  refine ⟨h.1, ?_⟩
  rcases h.2 with h2 | ⟨g, cap, cur, hv, hg, hh, h3⟩
  · exact .inl h2
  · exact .inr ⟨g, cap, cur, hv, hg, hp.same g _ hh ⟨h1, h2⟩, h3⟩
/-- The marks of the loops that a call has been through. -/
def markOf (D : Nat) : Deferred := { target := .collected D, args := #[] }
def Marks (base : Nat) (Ds : List Nat) (W : World) : Prop := Ds.Nodup ∧ ∀ D ∈ Ds, base ≤ D ∧ W.heap[D]? = some (.deferred (some []))
theorem Marks.keepX {base lp : Nat} {Ds : List Nat} {W W' : World} (h : Marks base Ds W) (hk : KeepX lp W W') : Marks base Ds W' := ⟨h.1, fun D hD => ⟨(h.2 D hD).1, hk.same _ _ (h.2 D hD).2 trivial⟩⟩
theorem Marks.part {base n bm : Nat} {Ds : List Nat} {W W' : World} (h : Marks base Ds W) (hk : PartN n bm W W') (hb : bm < base) (hn : ∀ D ∈ Ds, D < n) : Marks base Ds W' := ⟨h.1, fun D hD => ⟨(h.2 D hD).1, hk.same _ _ (h.2 D hD).2 (by have := (h.2 D hD).1; omega) (.inl (hn D hD))⟩⟩
theorem Marks.lt {base : Nat} {Ds : List Nat} {W : World} (h : Marks base Ds W) : ∀ D ∈ Ds, D < W.heap.size := fun D hD => (Array.getElem?_eq_some_iff.1 (h.2 D hD).2).1
/-- What the way out of a function that bears marks leaves. -/
structure Shut (n : Nat) (W W' : World) : Prop where
  os : W'.os = W.os
  tape : W'.tape = W.tape
  output : W'.output = W.output
  size : W'.heap.size = W.heap.size
  low : ∀ k, k < n → W'.heap[k]? = W.heap[k]?
  cells : ∀ (k : Nat) (o : Obj), W.heap[k]? = some o → o.isCells = true → W'.heap[k]? = some o
theorem Shut.part {n bm : Nat} {W W' : World} (h : Shut n W W') : PartN n bm W W' := ⟨h.os, h.tape, h.output, Nat.le_of_eq h.size.symm, fun k o hk _ ho => ho.elim (fun x => (h.low k x).trans hk) (fun x => h.cells k o hk x)⟩
theorem MapInt.shut {w w' : World} {b n m : Nat} {f : Int → Bool} (h : MapInt w b n f) (hs : Shut m w w') (hb : b < m) : MapInt w' b n f := by
  obtain ⟨D, hi, ⟨es, cl, hh, r⟩, ha⟩ := h
  exact ⟨D, hi, ⟨es, cl, (hs.low b hb).trans hh, r⟩, ha⟩
theorem leaves_marks {F : Fence} {n base : Nat} {P : Program} {fn : Func} {tmps : Array Value} {R : Ending → World → Prop} : ∀ (Ds : List Nat) (W : World), Marks base Ds W → (∀ W', Shut base W W' → LeavesIn F n P fn tmps R [] .returning W') →
    LeavesInM F n P fn tmps R (Ds.map markOf) .returning W
  | [], W, _, h => h W ⟨rfl, rfl, rfl, rfl, fun _ _ => rfl, fun _ _ h _ => h⟩
  | D :: Ds, W, hm, h => by
    have hD := hm.2 D (by simp)
    have hnd := List.nodup_cons.1 hm.1
    refine ⟨by simp, .inl ⟨D, _, rfl, run_takeDeferred hD.2, ?_⟩⟩
    refine leaves_marks Ds _ ⟨hnd.2, fun D' h' => ⟨(hm.2 D' (by simp [h'])).1, (World.putObj_heap_other (fun e => hnd.1 (by rw [← e]; exact h'))).trans (hm.2 D' (by simp [h'])).2⟩⟩ fun W' hW => h W' ?_
    refine ⟨hW.os, hW.tape, hW.output, hW.size.trans (by simp), fun k hk => (hW.low k hk).trans (World.putObj_heap_other (by omega)), fun k o hk ho => hW.cells k o ?_ ho⟩
    refine (World.putObj_heap_other (fun e => ?_)).trans hk
    subst e
    rw [hD.2] at hk
    cases hk
    cases ho

set_option maxHeartbeats 1000000 in
theorem below_in (n : Nat) (p : Option Addr) (h : Int) (m : Option Nat) (w : World) :
    CallsIn Fence.wide n Tryd.prog 54 #[.pointer p, .int .u64 h, .map m] w fun e w' => e = .returned (.func (.func 72) #[] #[.pointer (some ⟨w.heap.size + 1, 0, none⟩), .pointer (some ⟨w.heap.size, 0, none⟩), .pointer (some ⟨w.heap.size + 1 + 1, 0, none⟩)]) ∧ w' = ((w.alloc (.cells #[.pointer p] 36)).alloc (.cells #[.int .u64 h] 24)).alloc (.cells #[.map m] 92) := by
  refine callsIn_of_wp Tryd.func54 rfl trivial ?_ rfl
  simp only [Tryd.ntmps54, List.size_toArray, List.length_cons, List.length_nil, Nat.reduceAdd, Nat.reduceSub, Array.replicate_succ, Array.replicate_zero, List.push_toArray, List.append_toArray, List.nil_append, List.cons_append]
  gi_wp2
  go_ret
  exact ⟨rfl, rfl⟩
end Go.Proofs.YtlnckjemfabckaaDoor

/-
  arena.below's closure gives the slots that come of a handle.
-/
namespace Go.Proofs.YtlnckjemfabckaaDoor
open Go.RowKit Go.Shelf Go.Maps
attribute [local go_sem] Oper.semAt_some

/-- A piece that must end normally. -/
def onlyNt (Q : Exit → Act → World → Prop) : Exit → Act → World → Prop
  | .normal, a, w => Q .normal a w
  | _, _, _ => False
theorem wp_onlyNt {P : Program} {c : Code} {Q : Exit → Act → World → Prop} {a : Act} {w : World} (h : c.wp P (onlyNt Q) a w) : c.wp P Q a w :=
  Code.wp_mono (fun e a w h => by cases e <;> first | exact h | exact h.elim) h
def idxOf (a : Act) : Nat := match a.tmps[41]? with | some (Value.int _ n) => n.toNat | _ => 0
/-- What every step leaves: boxes, the memory, the children, the marks. -/
structure KeepW (gm gw : Nat) (s t f lm p : Int) (ws : List Int) (bmm bs by_ lp : Nat) (vs : List Int) (v : Value) (g5 bm base : Nat) (Ds : List Nat) (W' : World) : Prop where
  M : MemOk W' gm gw s t f lm p ws
  xm : Blk W' bmm 36 #[.pointer (some ⟨gm, 0, none⟩)]
  xs : Blk W' bs 92 #[.map (some bm)]
  xy : Blk W' by_ 105 #[.func (.yield lp) #[] #[]]
  ov : W'.ownsRow by_ 24 1 v vs.length (ints .u64 vs)
  mks : Marks by_ Ds W'
  sz : g5 < W'.heap.size
/-- What holds between two children. -/
structure LoopW (J : List Int → World → Prop) (C : Nat → List Int) (bm gm gw : Nat) (s t f lm p : Int) (ws : List Int) (bmm bs by_ lp : Nat) (vs : List Int) (v : Value) (g5 k : Nat) (Ds : List Nat) (W' : World) : Prop where
  j : J (C k) W'
  mi : MapInt W' bm (C k).length (fun j => decide (j ∈ C k))
  kw : KeepW gm gw s t f lm p ws bmm bs by_ lp vs v g5 bm 0 Ds W'
theorem KeepW.keepX {gm gw bmm bs by_ lp g5 bm base l9 : Nat} {s t f lm p : Int} {ws vs : List Int} {v : Value} {Ds : List Nat} {W W' : World} (h : KeepW gm gw s t f lm p ws bmm bs by_ lp vs v g5 bm base Ds W) (hk : KeepX l9 W W') : KeepW gm gw s t f lm p ws bmm bs by_ lp vs v g5 bm base Ds W' :=
  ⟨h.M.keepX hk, hk.blk h.xm (by decide) (by decide), hk.blk h.xs (by decide) (by decide), hk.blk h.xy (by decide) (by decide), hk.own h.ov (by decide) (by decide), h.mks.keepX hk, Nat.lt_of_lt_of_le h.sz hk.size⟩
theorem KeepW.part {gm gw bmm bs by_ lp g5 bm base n : Nat} {s t f lm p : Int} {ws vs : List Int} {v : Value} {Ds : List Nat} {W W' : World} (h : KeepW gm gw s t f lm p ws bmm bs by_ lp vs v g5 bm base Ds W) (hk : PartN n bm W W') (h1 : gm ≠ bm ∧ gw ≠ bm) (h2 : bmm ≠ bm ∧ bs ≠ bm) (h3 : bm < by_) (hn : ∀ D ∈ Ds, D < n) : KeepW gm gw s t f lm p ws bmm bs by_ lp vs v g5 bm base Ds W' :=
  ⟨h.M.part hk h1.1 h1.2, hk.box h.xm h2.1, hk.box h.xs h2.2, hk.box h.xy (by omega), hk.own h.ov h3, h.mks.part hk h3 hn, Nat.lt_of_lt_of_le h.sz hk.size⟩
theorem onlyNt_normal {Q : Exit → Act → World → Prop} {a : Act} {w : World} (h : Q .normal a w) : onlyNt Q .normal a w := h
set_option maxRecDepth 100000 in
set_option maxHeartbeats 4000000 in
theorem below1_yields (gm gw : Nat) (s t f lm p : Int) (ws : List Int) (hs : 1 ≤ s ∧ s ≤ 1000) (ht : 1 ≤ t ∧ t ≤ 64) (hf : 4 ≤ f ∧ f ≤ 64) (h64 : AllW64 ws) : ∀ (fuel : Nat) (h : Int) (l : List Int) (w : World) (bh bmm bs bm : Nat), W64 h → Nice s l → s.toNat + 1 ≤ l.length + fuel → MemOk w gm gw s t f lm p ws → MapInt w bm l.length (fun j => decide (j ∈ l)) → Blk w bh 24 #[.int .u64 h] → Blk w bmm 36 #[.pointer (some ⟨gm, 0, none⟩)] → Blk w bs 92 #[.map (some bm)] →
    Yields Tryd.prog 72 #[.pointer (some ⟨bh, 0, none⟩), .pointer (some ⟨bmm, 0, none⟩), .pointer (some ⟨bs, 0, none⟩)] bm s.toNat l (comeN (ndOf ws t f) s fuel h l) w (fun W => MapInt W bm (comeN (ndOf ws t f) s fuel h l).length (fun j => decide (j ∈ comeN (ndOf ws t f) s fuel h l))) := by
  intro fuel
  induction fuel with
  | zero =>
    intro h l w bh bmm bs bm _ hN hfu
    have := nice_le hN (by omega)
    omega
  | succ fuel ih =>
    intro h l w bh bmm bs bm hh hN hfu M MI xh xm xs n lp J W hb hlp hJ hY h0
    replace M := M.below hb
    replace MI := MI.below hb
    replace xh := xh.below hb xh.lt
    replace xm := xm.below hb xm.lt
    replace xs := xs.below hb xs.lt
    have PB := (Below.refl W.heap.size W).alloc (Nat.le_refl _) (.cells #[.func (.yield lp) #[] #[]] 105)
    have xy := Blk.new W 105 #[.func (.yield lp) #[] #[]]
    replace xh := xh.alloc (.cells #[.func (.yield lp) #[] #[]] 105)
    replace xm := xm.alloc (.cells #[.func (.yield lp) #[] #[]] 105)
    replace xs := xs.alloc (.cells #[.func (.yield lp) #[] #[]] 105)
    have C1 := hide (fun w2 => hnslot_any h w2 hh)
    have C2 := hide (fun w2 => lconfig_any s t f lm p w2)
    have C3 := hide (fun w2 => hnright_any h s w2 hh)
    have hf0 : ∀ w : World, (Instr.field 39 (.agg #[.int .i64 s, .int .i64 t, .int .i64 f, .int .i64 lm, .int .i64 p]) 0).run Tryd.prog w = .ok (.int .i64 s) w := fun _ => by kernel_rfl
    have hsw : (Lit.int .i64 (hsl h)).wf = true := by
      have : 0 ≤ hsl h ∧ hsl h < 65536 := by unfold hsl; omega
      simp only [Lit.wf, Bool.and_eq_true, decide_eq_true_eq]
      exact ⟨by show (-9223372036854775808 : Int) ≤ hsl h; omega, by show hsl h ≤ (9223372036854775807 : Int); omega⟩
    have HCE := hide (show comeN (ndOf ws t f) s (fuel + 1) h l = if hrt h s = true ∧ hsl h ∉ l then (if ((ndOf ws t f) (hsl h)).1 = true then ((ndOf ws t f) (hsl h)).2.foldl (fun l c => comeN (ndOf ws t f) s fuel c l) (l ++ [hsl h]) else l ++ [hsl h]) else l from rfl)
    have HSL := hide (fun hr => hrt_slot (h := h) (s := s) hr)
    generalize comeN (ndOf ws t f) s (fuel + 1) h l = lout at *
    generalize hsl h = sl at *
    have HS := hide hs
    have HT := hide ht
    have HF := hide hf
    have H64 := hide h64
    have HN := hide hN
    have HFU := hide hfu
    have HJ := hide hJ
    have HY := hide hY
    have H0 := hide h0
    have IH := hide ih
    have HMB := hide (show gm ≠ bm ∧ gw ≠ bm from ⟨MI.blk_ne M.1, MI.blk_ne M.2.1⟩)
    have HXB := hide (show bmm ≠ bm ∧ bs ≠ bm from ⟨(MI.alloc _).blk_ne xm, (MI.alloc _).blk_ne xs⟩)
    have HBM := hide MI.lt
    have HLP := hide hlp
    clear hs ht hf h64 hN hfu hJ hY h0 ih hb hlp
    replace M := M.below PB
    replace MI := MI.alloc (.cells #[.func (.yield lp) #[] #[]] 105)
    refine callsIn_wide.2 ((callsIn_wide (n := 5)).1 ?_)
    have hn : 1 ≤ 5 := by omega
    refine callsIn_of_wp_marks Tryd.func72 rfl trivial ?_ rfl
    simp only [Tryd.ntmps72, List.size_toArray, List.length_cons, List.length_nil, Nat.reduceAdd, Nat.reduceSub, Array.replicate_succ, Array.replicate_zero, List.push_toArray, List.append_toArray, List.nil_append, List.cons_append]
    have mh := xh.cell 0
    gi_wp2
    generalize W.alloc (.cells #[.func (.yield lp) #[] #[]] 105) = W0 at *
    refine ⟨trivial, ?_⟩
    refine (callsIn_wide.2 (C1.out _)).mono ?_
    rintro e w1 ⟨rfl, rfl⟩
    gi_wp2
    clear mh
    refine wpIn_wide.2 ?_
    refine wp_onlyNt ?_
    by_cases hr : ¬ hrt h s = true
    · have hrb : hrt h s = false := by simpa using hr
      have HE := hide (HCE.out.trans (if_neg (fun c => hr c.1)))
      rw [hrb] at C3
      clear hr hrb HCE
      refine wp_region_heldZ [] (fun w' => w'.cell? ⟨bh, 0, none⟩ = some (.int .u64 h) ∧ w'.cell? ⟨bmm, 0, none⟩ = some (.pointer (some ⟨gm, 0, none⟩)) ∧ w'.cell? ⟨bs, 0, none⟩ = some (.map (some bm)) ∧ (w'.cell? ⟨gm, 0, none⟩ = some (.int .i64 s) ∧ w'.cell? ⟨gm, 1, none⟩ = some (.int .i64 t) ∧ w'.cell? ⟨gm, 2, none⟩ = some (.int .i64 f) ∧ w'.cell? ⟨gm, 3, none⟩ = some (.int .i64 lm) ∧ w'.cell? ⟨gm, 4, none⟩ = some (.int .i64 p)) ∧ MapInt w' bm l.length (fun j => decide (j ∈ l))) (by kernel_rfl) (by exact ⟨xh.cell 0, xm.cell 0, xs.cell 0, mem5 M, MI⟩) (fun hHeld => ?_)
      replace xh := xh.drew
      replace xm := xm.drew
      replace xs := xs.drew
      replace xy := xy.drew
      replace M := M.drew
      replace MI := (show MapInt W0.drew _ _ _ from MI)
      replace PB := PB.drew
      generalize W0.drew = W1 at *
      refine' wpAnyZ_takeA (i := 0) (v := ?_) (opAt rfl) (by kernel_rfl) (by kernel_rfl) (by kernel_rfl) (by kernel_rfl) (fun _ _ _ h => h) (by assumption) (by rfl) (fun w hSw => ?_) ?_
      rotate_left
      · (try dsimp only at hSw); go_simp; (try with_reducible rfl)
      try simp only [Act.put, List.setIfInBounds_toArray, List.set_cons_zero, List.set_cons_succ]
      refine' wpAnyZ_takeA (i := 1) (v := ?_) (opAt rfl) (by kernel_rfl) (by kernel_rfl) (by kernel_rfl) (by kernel_rfl) (fun _ _ _ h => h) (by assumption) (by rfl) (fun w hSw => ?_) ?_
      rotate_left
      · (try dsimp only at hSw); go_simp; (try with_reducible rfl)
      try simp only [Act.put, List.setIfInBounds_toArray, List.set_cons_zero, List.set_cons_succ]
      refine' wpAnyZ_takeA (i := 2) (v := ?_) (opAt rfl) (by kernel_rfl) (by kernel_rfl) (by kernel_rfl) (by kernel_rfl) (fun _ _ _ h => h) (by assumption) (by rfl) (fun w hSw => ?_) ?_
      rotate_left
      · (try dsimp only at hSw); go_simp; (try with_reducible rfl)
      try simp only [Act.put, List.setIfInBounds_toArray, List.set_cons_zero, List.set_cons_succ]
      refine' wpAnyZ_takeA (i := 3) (v := ?_) (opAt rfl) (by kernel_rfl) (by kernel_rfl) (by kernel_rfl) (by kernel_rfl) (fun _ _ _ h => h) (by assumption) (by rfl) (fun w hSw => ?_) ?_
      rotate_left
      · (try dsimp only at hSw); go_simp; (try with_reducible rfl)
      try simp only [Act.put, List.setIfInBounds_toArray, List.set_cons_zero, List.set_cons_succ]
      refine' wpAnyZ_takeA (i := 4) (v := ?_) (opAt rfl) (by kernel_rfl) (by kernel_rfl) (by kernel_rfl) (by kernel_rfl) (fun _ _ _ h => h) (by assumption) (by rfl) (fun w hSw => ?_) ?_
      rotate_left
      · (try dsimp only at hSw); go_simp; (try with_reducible rfl)
      try simp only [Act.put, List.setIfInBounds_toArray, List.set_cons_zero, List.set_cons_succ]
      refine wpAnyZ_ready (rs := [5]) (by kernel_rfl) (by simp) ?_
      refine AllReadyZ.cons (opAt rfl) (fun K hK => ?_) ?_
      · skip
        go_simp
        refine (C2.out _).mono ?_
        rintro e w2 ⟨rfl, hb1⟩
        replace M := M.below hb1
        replace MI := MI.below hb1
        replace xh := xh.below hb1 xh.lt
        replace xm := xm.below hb1 xm.lt
        replace xs := xs.below hb1 xs.lt
        replace xy := xy.below hb1 xy.lt
        replace PB := PB.trans (hb1.mono PB.size)
        clear hb1
        try go_wp2_with fail
        refine hK.out _ _ (by exact ⟨xh.cell 0, xm.cell 0, xs.cell 0, mem5 M, MI⟩) (fun hHeld => ?_)
        clear hK K
        try simp only [Act.put, List.setIfInBounds_toArray, List.set_cons_zero, List.set_cons_succ]
        refine' wpAnyZ_takeA (i := 6) (v := ?_) (opAt rfl) (by kernel_rfl) (by kernel_rfl) (by kernel_rfl) (by kernel_rfl) (fun _ _ _ h => h) (by assumption) (by rfl) (fun w hSw => ?_) ?_
        rotate_left
        · (try dsimp only at hSw); go_simp; (try with_reducible rfl)
        try simp only [Act.put, List.setIfInBounds_toArray, List.set_cons_zero, List.set_cons_succ]
        refine wpAnyZ_ready (rs := [7]) (by kernel_rfl) (by simp) ?_
        refine AllReadyZ.cons (opAt rfl) (fun K hK => ?_) ?_
        · skip
          go_simp
          refine (C3.out _).mono ?_
          rintro e w3 ⟨rfl, rfl⟩
          try go_wp2_with fail
          refine hK.out _ _ (by exact ⟨xh.cell 0, xm.cell 0, xs.cell 0, mem5 M, MI⟩) (fun hHeld => ?_)
          clear hK K
          try simp only [Act.put, List.setIfInBounds_toArray, List.set_cons_zero, List.set_cons_succ]
          refine' wpAnyZ_takeA (i := 8) (v := ?_) (opAt rfl) (by kernel_rfl) (by kernel_rfl) (by kernel_rfl) (by kernel_rfl) (fun _ _ _ h => h) (by assumption) (by rfl) (fun w hSw => ?_) ?_
          rotate_left
          · (try dsimp only at hSw); go_simp; (try with_reducible rfl)
          try simp only [Act.put, List.setIfInBounds_toArray, List.set_cons_zero, List.set_cons_succ]
          refine' wpAnyZ_takeA (i := 9) (v := ?_) (opAt rfl) (by kernel_rfl) (by kernel_rfl) (by kernel_rfl) (by kernel_rfl) (fun _ _ _ h => h) (by assumption) (by rfl) (fun w hSw => ?_) ?_
          rotate_left
          · (try dsimp only at hSw); go_simp; (try with_reducible rfl)
          try simp only [Act.put, List.setIfInBounds_toArray, List.set_cons_zero, List.set_cons_succ]
          refine' wpAnyZ_skipA (i := 10) _ rfl (opAt rfl) (by kernel_rfl) (by kernel_rfl) (by kernel_rfl) (by kernel_rfl) (fun _ _ _ h => h) (by assumption) (by rfl) ?_
          try simp only [Act.put, List.setIfInBounds_toArray, List.set_cons_zero, List.set_cons_succ]
          refine' wpAnyZ_skipA (i := 11) _ rfl (opAt rfl) (by kernel_rfl) (by kernel_rfl) (by kernel_rfl) (by kernel_rfl) (fun _ _ _ h => h) (by assumption) (by rfl) ?_
          try simp only [Act.put, List.setIfInBounds_toArray, List.set_cons_zero, List.set_cons_succ]
          refine' wpAnyZ_skipA (i := 12) _ rfl (opAt rfl) (by kernel_rfl) (by kernel_rfl) (by kernel_rfl) (by kernel_rfl) (fun _ _ _ h => h) (by assumption) (by rfl) ?_
          try simp only [Act.put, List.setIfInBounds_toArray, List.set_cons_zero, List.set_cons_succ]
          refine' wpAnyZ_takeA (i := 13) (v := ?_) (opAt rfl) (by kernel_rfl) (by kernel_rfl) (by kernel_rfl) (by kernel_rfl) (fun _ _ _ h => h) (by assumption) (by rfl) (fun w hSw => ?_) ?_
          rotate_left
          · (try dsimp only at hSw); go_simp; (try with_reducible rfl)
          try simp only [Act.put, List.setIfInBounds_toArray, List.set_cons_zero, List.set_cons_succ]
          refine wpAnyZ_done (by kernel_rfl) ?_ _
          refine onlyNt_normal ?_
          have hJ2 := HJ.out _ _ _ H0.out (PartN.of_below PB)
          rw [← HE.out] at hJ2 MI
          clear HJ HY H0 IH
          gi_wp2
          exact ⟨_, results_none rfl _ _ _, ⟨_, rfl⟩, hJ2, MI⟩
        exact AllReadyZ.nil
      exact AllReadyZ.nil
    replace hr : hrt h s = true := by simpa using hr
    rw [hr] at C3
    by_cases hin : sl ∈ l
    · have HE := hide (HCE.out.trans (if_neg (fun c => c.2 hin)))
      have hd : decide (sl ∈ l) = true := by rw [decide_eq_true_iff]; exact hin
      clear HCE hin
      refine wp_region_heldZ [] (fun w' => w'.cell? ⟨bh, 0, none⟩ = some (.int .u64 h) ∧ w'.cell? ⟨bmm, 0, none⟩ = some (.pointer (some ⟨gm, 0, none⟩)) ∧ w'.cell? ⟨bs, 0, none⟩ = some (.map (some bm)) ∧ (w'.cell? ⟨gm, 0, none⟩ = some (.int .i64 s) ∧ w'.cell? ⟨gm, 1, none⟩ = some (.int .i64 t) ∧ w'.cell? ⟨gm, 2, none⟩ = some (.int .i64 f) ∧ w'.cell? ⟨gm, 3, none⟩ = some (.int .i64 lm) ∧ w'.cell? ⟨gm, 4, none⟩ = some (.int .i64 p)) ∧ MapInt w' bm l.length (fun j => decide (j ∈ l))) (by kernel_rfl) (by exact ⟨xh.cell 0, xm.cell 0, xs.cell 0, mem5 M, MI⟩) (fun hHeld => ?_)
      replace xh := xh.drew
      replace xm := xm.drew
      replace xs := xs.drew
      replace xy := xy.drew
      replace M := M.drew
      replace MI := (show MapInt W0.drew _ _ _ from MI)
      replace PB := PB.drew
      generalize W0.drew = W1 at *
      refine' wpAnyZ_takeA (i := 0) (v := ?_) (opAt rfl) (by kernel_rfl) (by kernel_rfl) (by kernel_rfl) (by kernel_rfl) (fun _ _ _ h => h) (by assumption) (by rfl) (fun w hSw => ?_) ?_
      rotate_left
      · (try dsimp only at hSw); go_simp; (try with_reducible rfl)
      try simp only [Act.put, List.setIfInBounds_toArray, List.set_cons_zero, List.set_cons_succ]
      refine' wpAnyZ_takeA (i := 1) (v := ?_) (opAt rfl) (by kernel_rfl) (by kernel_rfl) (by kernel_rfl) (by kernel_rfl) (fun _ _ _ h => h) (by assumption) (by rfl) (fun w hSw => ?_) ?_
      rotate_left
      · (try dsimp only at hSw); go_simp; (try with_reducible rfl)
      try simp only [Act.put, List.setIfInBounds_toArray, List.set_cons_zero, List.set_cons_succ]
      refine' wpAnyZ_takeA (i := 2) (v := ?_) (opAt rfl) (by kernel_rfl) (by kernel_rfl) (by kernel_rfl) (by kernel_rfl) (fun _ _ _ h => h) (by assumption) (by rfl) (fun w hSw => ?_) ?_
      rotate_left
      · (try dsimp only at hSw); go_simp; (try with_reducible rfl)
      try simp only [Act.put, List.setIfInBounds_toArray, List.set_cons_zero, List.set_cons_succ]
      refine' wpAnyZ_takeA (i := 3) (v := ?_) (opAt rfl) (by kernel_rfl) (by kernel_rfl) (by kernel_rfl) (by kernel_rfl) (fun _ _ _ h => h) (by assumption) (by rfl) (fun w hSw => ?_) ?_
      rotate_left
      · (try dsimp only at hSw); go_simp; (try with_reducible rfl)
      try simp only [Act.put, List.setIfInBounds_toArray, List.set_cons_zero, List.set_cons_succ]
      refine' wpAnyZ_takeA (i := 4) (v := ?_) (opAt rfl) (by kernel_rfl) (by kernel_rfl) (by kernel_rfl) (by kernel_rfl) (fun _ _ _ h => h) (by assumption) (by rfl) (fun w hSw => ?_) ?_
      rotate_left
      · (try dsimp only at hSw); go_simp; (try with_reducible rfl)
      try simp only [Act.put, List.setIfInBounds_toArray, List.set_cons_zero, List.set_cons_succ]
      refine wpAnyZ_ready (rs := [5]) (by kernel_rfl) (by simp) ?_
      refine AllReadyZ.cons (opAt rfl) (fun K hK => ?_) ?_
      · skip
        go_simp
        refine (C2.out _).mono ?_
        rintro e w2 ⟨rfl, hb1⟩
        replace M := M.below hb1
        replace MI := MI.below hb1
        replace xh := xh.below hb1 xh.lt
        replace xm := xm.below hb1 xm.lt
        replace xs := xs.below hb1 xs.lt
        replace xy := xy.below hb1 xy.lt
        replace PB := PB.trans (hb1.mono PB.size)
        clear hb1
        try go_wp2_with fail
        refine hK.out _ _ (by exact ⟨xh.cell 0, xm.cell 0, xs.cell 0, mem5 M, MI⟩) (fun hHeld => ?_)
        clear hK K
        try simp only [Act.put, List.setIfInBounds_toArray, List.set_cons_zero, List.set_cons_succ]
        refine' wpAnyZ_takeA (i := 6) (v := ?_) (opAt rfl) (by kernel_rfl) (by kernel_rfl) (by kernel_rfl) (by kernel_rfl) (fun _ _ _ h => h) (by assumption) (by rfl) (fun w hSw => ?_) ?_
        rotate_left
        · (try dsimp only at hSw); go_simp; (try with_reducible rfl)
        try simp only [Act.put, List.setIfInBounds_toArray, List.set_cons_zero, List.set_cons_succ]
        refine wpAnyZ_ready (rs := [7]) (by kernel_rfl) (by simp) ?_
        refine AllReadyZ.cons (opAt rfl) (fun K hK => ?_) ?_
        · skip
          go_simp
          refine (C3.out _).mono ?_
          rintro e w3 ⟨rfl, rfl⟩
          try go_wp2_with fail
          refine hK.out _ _ (by exact ⟨xh.cell 0, xm.cell 0, xs.cell 0, mem5 M, MI⟩) (fun hHeld => ?_)
          clear hK K
          try simp only [Act.put, List.setIfInBounds_toArray, List.set_cons_zero, List.set_cons_succ]
          refine' wpAnyZ_takeA (i := 8) (v := ?_) (opAt rfl) (by kernel_rfl) (by kernel_rfl) (by kernel_rfl) (by kernel_rfl) (fun _ _ _ h => h) (by assumption) (by rfl) (fun w hSw => ?_) ?_
          rotate_left
          · (try dsimp only at hSw); go_simp; (try with_reducible rfl)
          try simp only [Act.put, List.setIfInBounds_toArray, List.set_cons_zero, List.set_cons_succ]
          refine' wpAnyZ_takeA (i := 9) (v := ?_) (opAt rfl) (by kernel_rfl) (by kernel_rfl) (by kernel_rfl) (by kernel_rfl) (fun _ _ _ h => h) (by assumption) (by rfl) (fun w hSw => ?_) ?_
          rotate_left
          · (try dsimp only at hSw); go_simp; (try with_reducible rfl)
          try simp only [Act.put, List.setIfInBounds_toArray, List.set_cons_zero, List.set_cons_succ]
          refine' wpAnyZ_takeA (i := 10) (v := ?_) (opAt rfl) (by kernel_rfl) (by kernel_rfl) (by kernel_rfl) (by kernel_rfl) (fun _ _ _ h => h) (by assumption) (by rfl) (fun w hSw => ?_) ?_
          rotate_left
          · (try dsimp only at hSw); go_simp; (try with_reducible rfl)
          try simp only [Act.put, List.setIfInBounds_toArray, List.set_cons_zero, List.set_cons_succ]
          refine' wpAnyZ_takeA (i := 11) (v := ?_) (opAt rfl) (by kernel_rfl) (by kernel_rfl) (by kernel_rfl) (by kernel_rfl) (fun _ _ _ h => h) (by assumption) (by rfl) (fun w hSw => ?_) ?_
          rotate_left
          · (try dsimp only at hSw); go_simp; (try with_reducible rfl)
          try simp only [Act.put, List.setIfInBounds_toArray, List.set_cons_zero, List.set_cons_succ]
          refine' wpAnyZ_takeA (i := 12) (v := ?_) (opAt rfl) (by kernel_rfl) (by kernel_rfl) (by kernel_rfl) (by kernel_rfl) (fun _ _ _ h => h) (by assumption) (by rfl) (fun w hSw => ?_) ?_
          rotate_left
          · (try dsimp only at hSw); have hlk := hSw.2.2.2.2.look sl hsw; go_simp; (try with_reducible rfl)
          try simp only [Act.put, List.setIfInBounds_toArray, List.set_cons_zero, List.set_cons_succ]
          refine' wpAnyZ_takeA (i := 13) (v := ?_) (opAt rfl) (by kernel_rfl) (by kernel_rfl) (by kernel_rfl) (by kernel_rfl) (fun _ _ _ h => h) (by assumption) (by rfl) (fun w hSw => ?_) ?_
          rotate_left
          · (try dsimp only at hSw); go_simp; (try with_reducible rfl)
          try simp only [Act.put, List.setIfInBounds_toArray, List.set_cons_zero, List.set_cons_succ]
          refine wpAnyZ_done (by kernel_rfl) ?_ _
          refine onlyNt_normal ?_
          have hJ2 := HJ.out _ _ _ H0.out (PartN.of_below PB)
          rw [← HE.out] at hJ2 MI
          clear HJ HY H0 IH
          gi_wp2
          exact ⟨_, results_none rfl _ _ _, ⟨_, rfl⟩, hJ2, MI⟩
        exact AllReadyZ.nil
      exact AllReadyZ.nil
    have HE := hide (HCE.out.trans (if_pos ⟨hr, hin⟩))
    have hd : decide (sl ∈ l) = false := by rw [decide_eq_false_iff_not]; exact hin
    have HR := hide (HSL.out hr)
    have HNI := hide hin
    clear HCE hin hr HSL
    refine wp_region_heldZ [] (fun w' => w'.cell? ⟨bh, 0, none⟩ = some (.int .u64 h) ∧ w'.cell? ⟨bmm, 0, none⟩ = some (.pointer (some ⟨gm, 0, none⟩)) ∧ w'.cell? ⟨bs, 0, none⟩ = some (.map (some bm)) ∧ (w'.cell? ⟨gm, 0, none⟩ = some (.int .i64 s) ∧ w'.cell? ⟨gm, 1, none⟩ = some (.int .i64 t) ∧ w'.cell? ⟨gm, 2, none⟩ = some (.int .i64 f) ∧ w'.cell? ⟨gm, 3, none⟩ = some (.int .i64 lm) ∧ w'.cell? ⟨gm, 4, none⟩ = some (.int .i64 p)) ∧ MapInt w' bm l.length (fun j => decide (j ∈ l))) (by kernel_rfl) (by exact ⟨xh.cell 0, xm.cell 0, xs.cell 0, mem5 M, MI⟩) (fun hHeld => ?_)
    replace xh := xh.drew
    replace xm := xm.drew
    replace xs := xs.drew
    replace xy := xy.drew
    replace M := M.drew
    replace MI := (show MapInt W0.drew _ _ _ from MI)
    replace PB := PB.drew
    generalize W0.drew = W1 at *
    refine' wpAnyZ_takeA (i := 0) (v := ?_) (opAt rfl) (by kernel_rfl) (by kernel_rfl) (by kernel_rfl) (by kernel_rfl) (fun _ _ _ h => h) (by assumption) (by rfl) (fun w hSw => ?_) ?_
    rotate_left
    · (try dsimp only at hSw); go_simp; (try with_reducible rfl)
    try simp only [Act.put, List.setIfInBounds_toArray, List.set_cons_zero, List.set_cons_succ]
    refine' wpAnyZ_takeA (i := 1) (v := ?_) (opAt rfl) (by kernel_rfl) (by kernel_rfl) (by kernel_rfl) (by kernel_rfl) (fun _ _ _ h => h) (by assumption) (by rfl) (fun w hSw => ?_) ?_
    rotate_left
    · (try dsimp only at hSw); go_simp; (try with_reducible rfl)
    try simp only [Act.put, List.setIfInBounds_toArray, List.set_cons_zero, List.set_cons_succ]
    refine' wpAnyZ_takeA (i := 2) (v := ?_) (opAt rfl) (by kernel_rfl) (by kernel_rfl) (by kernel_rfl) (by kernel_rfl) (fun _ _ _ h => h) (by assumption) (by rfl) (fun w hSw => ?_) ?_
    rotate_left
    · (try dsimp only at hSw); go_simp; (try with_reducible rfl)
    try simp only [Act.put, List.setIfInBounds_toArray, List.set_cons_zero, List.set_cons_succ]
    refine' wpAnyZ_takeA (i := 3) (v := ?_) (opAt rfl) (by kernel_rfl) (by kernel_rfl) (by kernel_rfl) (by kernel_rfl) (fun _ _ _ h => h) (by assumption) (by rfl) (fun w hSw => ?_) ?_
    rotate_left
    · (try dsimp only at hSw); go_simp; (try with_reducible rfl)
    try simp only [Act.put, List.setIfInBounds_toArray, List.set_cons_zero, List.set_cons_succ]
    refine' wpAnyZ_takeA (i := 4) (v := ?_) (opAt rfl) (by kernel_rfl) (by kernel_rfl) (by kernel_rfl) (by kernel_rfl) (fun _ _ _ h => h) (by assumption) (by rfl) (fun w hSw => ?_) ?_
    rotate_left
    · (try dsimp only at hSw); go_simp; (try with_reducible rfl)
    try simp only [Act.put, List.setIfInBounds_toArray, List.set_cons_zero, List.set_cons_succ]
    refine wpAnyZ_ready (rs := [5]) (by kernel_rfl) (by simp) ?_
    refine AllReadyZ.cons (opAt rfl) (fun K hK => ?_) ?_
    · skip
      go_simp
      refine (C2.out _).mono ?_
      rintro e w2 ⟨rfl, hb1⟩
      replace M := M.below hb1
      replace MI := MI.below hb1
      replace xh := xh.below hb1 xh.lt
      replace xm := xm.below hb1 xm.lt
      replace xs := xs.below hb1 xs.lt
      replace xy := xy.below hb1 xy.lt
      replace PB := PB.trans (hb1.mono PB.size)
      clear hb1
      try go_wp2_with fail
      refine hK.out _ _ (by exact ⟨xh.cell 0, xm.cell 0, xs.cell 0, mem5 M, MI⟩) (fun hHeld => ?_)
      clear hK K
      try simp only [Act.put, List.setIfInBounds_toArray, List.set_cons_zero, List.set_cons_succ]
      refine' wpAnyZ_takeA (i := 6) (v := ?_) (opAt rfl) (by kernel_rfl) (by kernel_rfl) (by kernel_rfl) (by kernel_rfl) (fun _ _ _ h => h) (by assumption) (by rfl) (fun w hSw => ?_) ?_
      rotate_left
      · (try dsimp only at hSw); go_simp; (try with_reducible rfl)
      try simp only [Act.put, List.setIfInBounds_toArray, List.set_cons_zero, List.set_cons_succ]
      refine wpAnyZ_ready (rs := [7]) (by kernel_rfl) (by simp) ?_
      refine AllReadyZ.cons (opAt rfl) (fun K hK => ?_) ?_
      · skip
        go_simp
        refine (C3.out _).mono ?_
        rintro e w3 ⟨rfl, rfl⟩
        try go_wp2_with fail
        refine hK.out _ _ (by exact ⟨xh.cell 0, xm.cell 0, xs.cell 0, mem5 M, MI⟩) (fun hHeld => ?_)
        clear hK K
        try simp only [Act.put, List.setIfInBounds_toArray, List.set_cons_zero, List.set_cons_succ]
        refine' wpAnyZ_takeA (i := 8) (v := ?_) (opAt rfl) (by kernel_rfl) (by kernel_rfl) (by kernel_rfl) (by kernel_rfl) (fun _ _ _ h => h) (by assumption) (by rfl) (fun w hSw => ?_) ?_
        rotate_left
        · (try dsimp only at hSw); go_simp; (try with_reducible rfl)
        try simp only [Act.put, List.setIfInBounds_toArray, List.set_cons_zero, List.set_cons_succ]
        refine' wpAnyZ_takeA (i := 9) (v := ?_) (opAt rfl) (by kernel_rfl) (by kernel_rfl) (by kernel_rfl) (by kernel_rfl) (fun _ _ _ h => h) (by assumption) (by rfl) (fun w hSw => ?_) ?_
        rotate_left
        · (try dsimp only at hSw); go_simp; (try with_reducible rfl)
        try simp only [Act.put, List.setIfInBounds_toArray, List.set_cons_zero, List.set_cons_succ]
        refine' wpAnyZ_takeA (i := 10) (v := ?_) (opAt rfl) (by kernel_rfl) (by kernel_rfl) (by kernel_rfl) (by kernel_rfl) (fun _ _ _ h => h) (by assumption) (by rfl) (fun w hSw => ?_) ?_
        rotate_left
        · (try dsimp only at hSw); go_simp; (try with_reducible rfl)
        try simp only [Act.put, List.setIfInBounds_toArray, List.set_cons_zero, List.set_cons_succ]
        refine' wpAnyZ_takeA (i := 11) (v := ?_) (opAt rfl) (by kernel_rfl) (by kernel_rfl) (by kernel_rfl) (by kernel_rfl) (fun _ _ _ h => h) (by assumption) (by rfl) (fun w hSw => ?_) ?_
        rotate_left
        · (try dsimp only at hSw); go_simp; (try with_reducible rfl)
        try simp only [Act.put, List.setIfInBounds_toArray, List.set_cons_zero, List.set_cons_succ]
        refine' wpAnyZ_takeA (i := 12) (v := ?_) (opAt rfl) (by kernel_rfl) (by kernel_rfl) (by kernel_rfl) (by kernel_rfl) (fun _ _ _ h => h) (by assumption) (by rfl) (fun w hSw => ?_) ?_
        rotate_left
        · (try dsimp only at hSw); have hlk := hSw.2.2.2.2.look sl hsw; go_simp; (try with_reducible rfl)
        try simp only [Act.put, List.setIfInBounds_toArray, List.set_cons_zero, List.set_cons_succ]
        refine' wpAnyZ_takeA (i := 13) (v := ?_) (opAt rfl) (by kernel_rfl) (by kernel_rfl) (by kernel_rfl) (by kernel_rfl) (fun _ _ _ h => h) (by assumption) (by rfl) (fun w hSw => ?_) ?_
        rotate_left
        · (try dsimp only at hSw); go_simp; (try with_reducible rfl)
        try simp only [Act.put, List.setIfInBounds_toArray, List.set_cons_zero, List.set_cons_succ]
        refine wpAnyZ_done (by kernel_rfl) ?_ _
        refine onlyNt_normal ?_
        have ms := xs.cell 0
        have hNN := nice_snoc HN.out HR.out HNI.out
        have hlen : l.length < s.toNat := by have h1 := nice_le hNN (by have := HS.out; omega); simp at h1; omega
        have HNN := hide hNN
        have HLEN := hide hlen
        clear hNN hlen
        obtain ⟨w3, hrun, MI3, hg3⟩ := MI.mark (show l.length < maxLen by have h1 := HLEN.out; have h2 := HS.out; unfold maxLen; omega) sl hsw
        have P3 := (PartN.of_below (n := W.heap.size) (bm := bm) PB).trans (PartN.of_grownBy hg3)
        have hF : (fun j => if j = sl then true else decide (j ∈ l)) = (fun j => decide (j ∈ l ++ [sl])) := by
          funext j
          by_cases hj : j = sl
          · subst hj; simp
          · rw [if_neg hj]; simp [hj]
        rw [hF, show l.length + 1 = (l ++ [sl]).length by simp] at MI3
        clear hF
        replace xm := xm.grown hg3 (fun e => HXB.out.1 (by injection e))
        replace xs := xs.grown hg3 (fun e => HXB.out.2 (by injection e))
        have hyb : W.heap.size ≠ bm := fun e => by have := HBM.out; omega
        replace xy := xy.grown hg3 (fun e => hyb (by injection e))
        replace M := M.grown hg3 (fun e => HMB.out.1 (by injection e)) (fun e => HMB.out.2 (by injection e))
        have hsz3 : W.heap.size + 1 ≤ w3.heap.size := Nat.le_trans xy.lt (Nat.le_refl _)
        have HSZ3 := hide hsz3
        clear hsz3 hyb
        have my := xy.cell 0
        have hJ3 := HJ.out _ _ _ H0.out P3
        obtain ⟨fn, tmps, assign, body, hy, hR⟩ := HY.out l sl w3 HLEN.out hJ3
        clear hJ3 hg3 PB MI xh H0
        gi_wp2
        refine (RoundIn.anyDepth rfl hR).mono ?_
        rintro e w4 ⟨rfl, hJ4, hk4⟩
        clear hrun hy hR ms my
        replace MI := MI3.keepX hk4
        clear MI3
        replace M := M.keepX hk4
        replace xm := hk4.blk xm (by decide) (by decide)
        replace xs := hk4.blk xs (by decide) (by decide)
        replace xy := hk4.blk xy (by decide) (by decide)
        have AN := hide (fun w2 (h2 : MemOk w2 gm gw s t f lm p ws) => anode_yes gm gw s t f lm p sl ws w2 HS.out HT.out HF.out (by have := HR.out; omega) h2 H64.out)
        have hgo : (ndOf ws t f sl).1 = nodI ws t f sl := rfl
        have hgv : (ndOf ws t f sl).2 = nodV ws t f sl := rfl
        rw [hgo, hgv] at HE
        clear hgo hgv
        have HV64 := hide (show ∀ x ∈ nodV ws t f sl, W64 x from rowL_w64 H64.out _ _)
        have HVL := hide (show (nodV ws t f sl).length ≤ 64 by have h1 := nodN_le (t := t) (k := sl) H64.out HF.out; have h2 := HF.out; have h3 := rowL_len ws (fun i => nB t f sl + 3 + f + i) (nodN ws t f sl); unfold nodV; omega)
        generalize nodK ws t f sl = ks at *
        generalize nodV ws t f sl = vs at *
        generalize nodL ws t f sl = lk at *
        generalize nodI ws t f sl = inn at *
        have mm := xm.cell 0
        have hsz4 := hide hk4.size
        gi_wp2
        refine ⟨trivial, ?_⟩
        refine (callsIn_wide.2 (AN.out _ M)).mono ?_
        rintro e w5 ⟨⟨v, rfl, ⟨kk, uu, rfl, o1, o2⟩⟩, hb1⟩
        obtain ⟨Ak, ck, rfl⟩ := o1.val
        obtain ⟨Av, cv, rfl⟩ := o2.val
        clear o1
        have bg := Blk.new w5 94 #[.bool false, .slice none 0 0, .slice none 0 0, .int .u64 0]
        have zg := fun i => bg.frozen i
        have mg := fun i => bg.cell i
        have B5 := (Below.refl w5.heap.size w5).alloc (Nat.le_refl _) (.cells #[.bool inn, .slice Ak ks.length ck, .slice Av vs.length cv, .int .u64 lk] 94)
        have P5 := (PartN.of_below (n := W.heap.size) (bm := bm) hb1).trans (PartN.of_below B5)
        have hJ5 := HJ.out _ _ _ hJ4 P5
        replace MI := (MI.below hb1).below B5
        clear mm AN hJ4
        cases inn with
        | false =>
          replace HE := HE.out.trans (if_neg (by decide))
          rw [← HE] at hJ5 MI
          clear HE HY HJ IH
          gi_wp2
          exact ⟨_, results_none rfl _ _ _, ⟨_, rfl⟩, hJ5, MI⟩
        | true =>
          replace HE := hide (HE.out.trans (if_pos rfl))
          have HSZ5 := hide (show W.heap.size + 1 ≤ w5.heap.size by have h1 := HSZ3.out; have h2 := hsz4.out; have h3 := hb1.size; omega)
          have HLW := hide (LoopW.mk (Ds := []) hJ5 MI (KeepW.mk ((M.below hb1).below B5) (xm.below hb1 xm.lt |>.below B5 (xm.below hb1 xm.lt).lt) (xs.below hb1 xs.lt |>.below B5 (xs.below hb1 xs.lt).lt) (xy.below hb1 xy.lt |>.below B5 (xy.below hb1 xy.lt).lt) (own_mono (own_below o2 B5) (show W.heap.size ≤ w4.heap.size by have h1 := HSZ3.out; have h2 := hsz4.out; omega)) ⟨by simp, by simp⟩ (by rw [World.size_alloc]; omega)) : LoopW J (fun k => comesK (ndOf ws t f) s fuel vs (l ++ [sl]) k) bm gm gw s t f lm p ws bmm bs W.heap.size lp vs (.slice Av vs.length cv) w5.heap.size 0 [] _)
          clear hJ5 MI B5 P5 o2 hk4 hb1 M xm xs xy
          gi_wp2
          generalize w5.alloc (.cells #[.bool true, .slice Ak ks.length ck, .slice Av vs.length cv, .int .u64 lk] 94) = w6 at *
          generalize w5.heap.size = g5 at *
          clear zg mg bg
          refine wpIn_loop (fun a W' => ∃ (k : Nat) (q : Int) (u8 u42 u43 u44 u45 u46 u47 u48 u54 : Value) (Ds : List Nat), q = (k : Int) ∧ k ≤ vs.length ∧ a = { tmps := #[.func (.yield lp) #[] #[], .pointer (some ⟨bh, 0, none⟩), .pointer (some ⟨bmm, 0, none⟩), .pointer (some ⟨bs, 0, none⟩), .pointer (some ⟨W.heap.size, 0, none⟩), .int .i64 sl, .pointer (some ⟨g5, 0, none⟩), undef, u8, undef, .int .u64 h, .int .i64 sl, .int .u64 h, .pointer (some ⟨gm, 0, none⟩), .pointer (some ⟨gm, 0, none⟩), .pointer (some ⟨gm, 0, none⟩), .agg #[.int .i64 s, .int .i64 t, .int .i64 f, .int .i64 lm, .int .i64 p], .agg #[.int .i64 s, .int .i64 t, .int .i64 f, .int .i64 lm, .int .i64 p], .int .i64 s, .bool true, .bool false, .bool false, .map (some bm), .int .i64 sl, .bool false, .bool false, .map (some bm), .int .i64 sl, .func (.yield lp) #[] #[], .int .i64 sl, .bool true, .bool false, .pointer (some ⟨gm, 0, none⟩), .int .i64 sl, .agg #[.bool true, .slice Ak ks.length ck, .slice Av vs.length cv, .int .u64 lk], .pointer (some ⟨g5, 0, none⟩), .bool true, .bool false, .pointer (some ⟨g5, 2, none⟩), .slice Av vs.length cv, .int .i64 vs.length, .int .i64 q, u42, u43, u44, u45, u46, u47, u48, undef, undef, undef, undef, undef, u54], defers := Ds.map markOf } ∧ LoopW J (fun k => comesK (ndOf ws t f) s fuel vs (l ++ [sl]) k) bm gm gw s t f lm p ws bmm bs W.heap.size lp vs (.slice Av vs.length cv) g5 k Ds W') (fun a _ => vs.length - idxOf a) ⟨0, 0, _, _, _, _, _, _, _, _, _, [], rfl, Nat.zero_le _, rfl, HLW.out⟩ ?_
          rintro a wr ⟨k, q, u8, u42, u43, u44, u45, u46, u47, u48, u54, Ds, hq, hk, rfl, lw⟩
          have HQ := hide hq
          have hq0 : 0 ≤ q := by omega
          have hq1 : q ≤ 64 := by have := HVL.out; omega
          clear HLW hq
          by_cases hlt : k < vs.length
          · have HLT := hide hlt
            have hqv : q < (vs.length : Int) := by have := HQ.out; omega
            obtain ⟨hJ, MI, kw⟩ := lw
            obtain ⟨M, xm, xs, xy, ov, mk, hsz⟩ := kw
            obtain ⟨av, rfl, hkl, z1⟩ := (Reads.of_own ov).word hlt
            have hc64 := hide (HV64.out _ (List.getElem_mem hkl))
            have HK := hide (comesK_succ (ndOf ws t f) s fuel vs (l ++ [sl]) k hlt)
            generalize vs[k] = c at *
            rw [show k = q.toNat by have := HQ.out; omega] at z1
            have C := hide (fun w2 => below_in 4 (some ⟨gm, 0, none⟩) c (some bm) w2)
            have mm := xm.cell 0
            have ms := xs.cell 0
            gi_wp2
            refine ⟨trivial, ?_⟩
            refine (C.out _).mono ?_
            rintro e w7 ⟨rfl, rfl⟩
            clear mm ms z1
            gi_wp2
            have hn1 := comesK_nice (nd := ndOf ws t f) (s := s) (n := fuel) (vs := vs) HNN.out k hk
            have hfu2 : s.toNat + 1 ≤ (comesK (ndOf ws t f) s fuel vs (l ++ [sl]) k).length + fuel := by
              have h1 := hn1.2
              rw [List.length_append] at h1
              simp only [List.length_singleton] at h1
              have h2 := HFU.out
              omega
            have Pb := (((Below.refl wr.heap.size wr).alloc (Nat.le_refl _) (.cells #[.pointer (some ⟨gm, 0, none⟩)] 36)).alloc (by simp only [World.size_alloc]; omega) (.cells #[.int .u64 c] 24)).alloc (by simp only [World.size_alloc]; omega) (.cells #[.map (some bm)] 92)
            have b1 := ((Blk.new wr 36 #[.pointer (some ⟨gm, 0, none⟩)]).alloc (.cells #[.int .u64 c] 24)).alloc (.cells #[.map (some bm)] 92)
            have b2 := (Blk.new (wr.alloc (.cells #[.pointer (some ⟨gm, 0, none⟩)] 36)) 24 #[.int .u64 c]).alloc (.cells #[.map (some bm)] 92)
            have b3 := Blk.new ((wr.alloc (.cells #[.pointer (some ⟨gm, 0, none⟩)] 36)).alloc (.cells #[.int .u64 c] 24)) 92 #[.map (some bm)]
            simp only [World.size_alloc] at b2 b3
            generalize ((wr.alloc (.cells #[.pointer (some ⟨gm, 0, none⟩)] 36)).alloc (.cells #[.int .u64 c] 24)).alloc (.cells #[.map (some bm)] 92) = w7 at *
            have kw7 := (KeepW.mk (base := 0) (bm := bm) M xm xs xy ov mk hsz).keepX (KeepX.of_below (l := lp) Pb)
            have hJ7 := HJ.out _ _ _ hJ (PartN.of_below Pb)
            have HSEQ := hide (IH.out c _ w7 (wr.heap.size + 1) wr.heap.size (wr.heap.size + 1 + 1) bm hc64.out hn1.1 hfu2 (M.below Pb) (MI.below Pb) b2 b1 b3)
            have hW7 : W.heap.size < w7.heap.size := Nat.lt_of_lt_of_le kw7.xy.lt (Nat.le_refl _)
            have HW7 := hide hW7
            have hDs := hide kw7.mks.lt
            clear hn1 hfu2 b1 b2 b3 M xm xs xy ov mk hsz hJ MI IH hW7
            refine rangeFunc_seen (gf := 72) (lb := #[.pointer (some ⟨wr.heap.size + 1, 0, none⟩), .pointer (some ⟨wr.heap.size, 0, none⟩), .pointer (some ⟨wr.heap.size + 1 + 1, 0, none⟩)]) rfl (enters_of Tryd.func72 (by kernel_rfl) rfl) HSEQ.out (Nat.lt_trans HBM.out HW7.out) (fun A k o hk hf => hf.putObj o (by have h1 := HBM.out; have h2 := HW7.out; omega)) rfl
              (fun xs W' => J xs W' ∧ KeepW gm gw s t f lm p ws bmm bs W.heap.size lp vs (.slice (some av) vs.length cv) g5 bm 0 Ds W')
              (fun xs A A' h hp => ⟨HJ.out _ _ _ h.1 (hp.mono (Nat.le_of_lt HW7.out)), h.2.part hp HMB.out HXB.out HBM.out hDs.out⟩)
              ⟨hJ7, kw7⟩
              (fun (x : Int) => { tmps := #[.func (.yield lp) #[] #[], .pointer (some ⟨bh, 0, none⟩), .pointer (some ⟨bmm, 0, none⟩), .pointer (some ⟨bs, 0, none⟩), .pointer (some ⟨W.heap.size, 0, none⟩), .int .i64 sl, .pointer (some ⟨g5, 0, none⟩), undef, .int .u64 c, .int .i64 x, .int .u64 h, .int .i64 sl, .int .u64 h, .pointer (some ⟨gm, 0, none⟩), .pointer (some ⟨gm, 0, none⟩), .pointer (some ⟨gm, 0, none⟩), .agg #[.int .i64 s, .int .i64 t, .int .i64 f, .int .i64 lm, .int .i64 p], .agg #[.int .i64 s, .int .i64 t, .int .i64 f, .int .i64 lm, .int .i64 p], .int .i64 s, .bool true, .bool false, .bool false, .map (some bm), .int .i64 sl, .bool false, .bool false, .map (some bm), .int .i64 sl, .func (.yield lp) #[] #[], .int .i64 sl, .bool true, .bool false, .pointer (some ⟨gm, 0, none⟩), .int .i64 sl, .agg #[.bool true, .slice Ak ks.length ck, .slice (some av) vs.length cv, .int .u64 lk], .pointer (some ⟨g5, 0, none⟩), .bool true, .bool false, .pointer (some ⟨g5, 2, none⟩), .slice (some av) vs.length cv, .int .i64 vs.length, .int .i64 q, .bool true, .pointer (some (av.add q.toNat)), .int .u64 c, .pointer (some ⟨gm, 0, none⟩), .int .u64 c, .map (some bm), .func (.func 72) #[] #[.pointer (some ⟨wr.heap.size + 1, 0, none⟩), .pointer (some ⟨wr.heap.size, 0, none⟩), .pointer (some ⟨wr.heap.size + 1 + 1, 0, none⟩)], .int .i64 x, undef, undef, undef, undef, u54], defers := [] }) ?assign ?body ?done
            case assign =>
              intro l9 x W9 K hK
              gi_wp2
              exact hK
            case body =>
              rintro l9 xs9 x W9 hl1 hl2 ⟨r9, hr9⟩ ⟨hJ9, kw9⟩ hlen9
              obtain ⟨fn9, tmps9, assign9, body9, hy9, hR9⟩ := HY.out xs9 x W9 hlen9 hJ9
              have my := kw9.xy.cell 0
              have HL9 := hide (show lp < l9 by have h1 := HLP.out; have h2 := HW7.out; omega)
              have HR9 := hide hr9
              clear hJ9 hr9 hl1 hl2
              gi_wp2
              refine RoundIn.mono (RoundIn.anyDepth rfl hR9) ?_
              rintro e w9 ⟨rfl, hJ10, hk10⟩
              clear my
              gi_wp2
              exact ⟨hk10.mono (Nat.le_of_lt HL9.out), (hk10.same _ _ HR9.out HL9.out).trans HR9.out.symm, hJ10, kw9.keepX hk10⟩
            case done =>
              rintro D W9 hD ⟨hJ9, kw9⟩ hMI9 hK9
              have hnd : D ∉ Ds := fun h => by have h1 := hDs.out D h; omega
              have hmk := hide (show Marks W.heap.size (D :: Ds) W9 from ⟨List.nodup_cons.2 ⟨hnd, kw9.mks.1⟩, fun D' h' => by
                rcases List.mem_cons.1 h' with rfl | h'
                · exact ⟨by have h2 := HW7.out; omega, hK9⟩
                · exact kw9.mks.2 D' h'⟩)
              rw [← HK.out] at hJ9 hMI9
              have HJ9 := hide hJ9
              have HM9 := hide hMI9
              have HKW := hide kw9
              clear hJ9 hMI9 kw9 hK9 hD hnd kw7 hJ7 Pb
              gi_wp2
              exact ⟨⟨k + 1, q + 1, _, _, _, _, _, _, _, _, _, D :: Ds, by have := HQ.out; omega, HLT.out, rfl, ⟨HJ9.out, HM9.out, ⟨HKW.out.M, HKW.out.xm, HKW.out.xs, HKW.out.xy, HKW.out.ov, hmk.out, HKW.out.sz⟩⟩⟩, by show vs.length - (q + 1).toNat < vs.length - q.toNat; have := HLT.out; have := HQ.out; omega⟩
          · have hkv : k = vs.length := by omega
            subst hkv
            have hqv : ¬ q < (vs.length : Int) := by have := HQ.out; omega
            obtain ⟨hJ, MI, kw⟩ := lw
            have hmk := hide kw.mks
            rw [show comesK (ndOf ws t f) s fuel vs (l ++ [sl]) vs.length = lout from (comesK_all _ _ _ _ _).trans HE.out.symm] at hJ MI
            have hJ2 := hide (fun W' (hS : Shut W.heap.size wr W') => HJ.out _ _ _ hJ hS.part)
            have hMI := hide MI
            clear hJ MI kw IH HY HJ
            gi_wp2
            refine leaves_marks Ds _ hmk.out ?_
            intro W9 hS
            exact ⟨_, results_none rfl _ _ _, ⟨_, rfl⟩, hJ2.out _ hS, hMI.out.shut hS HBM.out⟩
      exact AllReadyZ.nil
    exact AllReadyZ.nil
end Go.Proofs.YtlnckjemfabckaaDoor

/-
  arena.Tree of any memory; chapter 10's example.
-/
namespace Go.Proofs.YtlnckjemfabckaaDoor
open Go.RowKit Go.Shelf Go.Maps

def treeL (ws : List Int) (s t f : Int) : List Int := comeN (ndOf ws t f) s (s.toNat + 1) (wGet ws (nB t f 0 + 3 + f)) []
theorem tree_beg {s t f : Int} (hs : 1 ≤ s ∧ s ≤ 1000) (ht : 1 ≤ t ∧ t ≤ 64) (hf : 4 ≤ f ∧ f ≤ 64) : treeL (begL s t f) s t f = [1] := by
  unfold treeL
  rw [beg_root hs ht hf]
  unfold comeN
  have h1 : hsl 65537 = 1 := by decide
  have h2 : hrt 65537 s = true := by
    unfold hrt
    rw [h1]
    simp only [Bool.and_eq_true, decide_eq_true_eq]
    omega
  have b := nB_bd hs ht hf (sl := 1) (by omega)
  have h3 : (ndOf (begL s t f) t f (hsl 65537)).1 = false := by
    rw [h1]
    show innB (wGet (begL s t f) (nB t f 1 + 1)) = false
    rw [beg_get (by omega)]
    have h2 := (at_or (t := t) (f := f) (j := nB t f 1 + 1) (k := 1) (c := 1) (by omega) (by omega)).1 (by omega)
    have hp : nB t f 1 + 1 ≠ 2 := by unfold nB; omega
    unfold begAt
    rw [if_neg hp]
    unfold bK bOR
    rw [h2.1, h2.2]
    simp
    rfl
  rw [if_pos ⟨h2, by simp⟩, h3, h1]
  rfl
set_option maxRecDepth 100000 in
set_option maxHeartbeats 2000000 in
theorem atree_any (gm gw : Nat) (s t f lm p : Int) (ws : List Int) (w : World) (hs : 1 ≤ s ∧ s ≤ 1000) (ht : 1 ≤ t ∧ t ≤ 64) (hf : 4 ≤ f ∧ f ≤ 64) (M : MemOk w gm gw s t f lm p ws) (h64 : AllW64 ws) :
    Calls Tryd.prog 33 #[.pointer (some ⟨gm, 0, none⟩)] w fun e w' => (∃ A c, e = .returned (.slice A (treeL ws s t f).length c) ∧ w'.ownsRow w.heap.size 3 1 (.slice A (treeL ws s t f).length c) (treeL ws s t f).length (ints .i64 (treeL ws s t f))) ∧ Below w.heap.size w w' := by
  have hmm := @run_makeMap Tryd.prog
  have RT := hide (aroot_any gm gw s t f lm p ws w hs ht hf M)
  have BL := hide (fun p h m w2 => (callsIn_wide (n := 5)).1 (below_in 5 p h m w2))
  have YL := hide (fun w2 bh bmm bs bm (M : MemOk w2 gm gw s t f lm p ws) MI xh xm xs => below1_yields gm gw s t f lm p ws hs ht hf h64 (s.toNat + 1) (wGet ws (nB t f 0 + 3 + f)) [] w2 bh bmm bs bm (wGet_w64 h64 _) (nice_nil s) (by simp) M MI xh xm xs)
  have HTL := hide (show comeN (ndOf ws t f) s (s.toNat + 1) (wGet ws (nB t f 0 + 3 + f)) [] = treeL ws s t f from rfl)
  rw [HTL.out] at YL
  generalize treeL ws s t f = L at *
  generalize wGet ws (nB t f 0 + 3 + f) = rt at *
  have hsN : s.toNat ≤ 100000 := by omega
  have HSN := hide hsN
  have HM := hide M
  clear hs ht hf h64 M hsN
  go_enter Tryd.func33, Tryd.ntmps33
  go_wp2_with fail
  refine (RT.out).mono ?_
  rintro e w1 ⟨rfl, hb1⟩
  go_wp2_with fail
  refine (BL.out _ _ _ _).mono ?_
  rintro e w2 ⟨rfl, rfl⟩
  have B1 := (((hb1.alloc (hb1.size) (.map #[] 0)).alloc (by rw [World.size_alloc]; have := hb1.size; omega) (.cells #[.pointer (some ⟨gm, 0, none⟩)] 36)).alloc (by simp only [World.size_alloc]; have := hb1.size; omega) (.cells #[.int .u64 rt] 24)).alloc (by simp only [World.size_alloc]; have := hb1.size; omega) (.cells #[.map (some w1.heap.size)] 92)
  have b1 := ((Blk.new (w1.alloc (.map #[] 0)) 36 #[.pointer (some ⟨gm, 0, none⟩)]).alloc (.cells #[.int .u64 rt] 24)).alloc (.cells #[.map (some w1.heap.size)] 92)
  have b2 := (Blk.new ((w1.alloc (.map #[] 0)).alloc (.cells #[.pointer (some ⟨gm, 0, none⟩)] 36)) 24 #[.int .u64 rt]).alloc (.cells #[.map (some w1.heap.size)] 92)
  have b3 := Blk.new (((w1.alloc (.map #[] 0)).alloc (.cells #[.pointer (some ⟨gm, 0, none⟩)] 36)).alloc (.cells #[.int .u64 rt] 24)) 92 #[.map (some w1.heap.size)]
  have MI := (((MapInt.made w1).alloc (.cells #[.pointer (some ⟨gm, 0, none⟩)] 36)).alloc (.cells #[.int .u64 rt] 24)).alloc (.cells #[.map (some w1.heap.size)] 92)
  rw [show (fun _ : Int => false) = (fun j : Int => decide (j ∈ ([] : List Int))) by funext j; simp] at MI
  simp only [World.size_alloc] at b1 b2 b3
  go_wp2_with fail
  have hz : (((((w1.alloc (.map #[] 0)).alloc (.cells #[.pointer (some ⟨gm, 0, none⟩)] 36)).alloc (.cells #[.int .u64 rt] 24)).alloc (.cells #[.map (some w1.heap.size)] 92))).heap.size = w1.heap.size + 4 := by simp only [World.size_alloc]
  generalize ((((w1.alloc (.map #[] 0)).alloc (.cells #[.pointer (some ⟨gm, 0, none⟩)] 36)).alloc (.cells #[.int .u64 rt] 24)).alloc (.cells #[.map (some w1.heap.size)] 92)) = w2 at *
  have hb1s := hb1.size
  have Y := YL.out w2 _ _ _ _ (HM.out.below B1) MI b2 b1 b3
  have C := hide (collect_any _ _ _ _ _ _ w2 HSN.out (by omega) Y (fun A k o hk hf => hf.putObj o (by omega)) (enters_of Tryd.func72 (by kernel_rfl) rfl))
  clear Y MI b1 b2 b3 hb1 YL
  refine (C.out).mono ?_
  rintro e w3 ⟨⟨A, c, rfl, ho⟩, hx, _⟩
  have HX := hide (hx.below B1 B1.size hb1s)
  have HO := hide (own_mono ho (show w.heap.size ≤ w2.heap.size from B1.size))
  clear ho hx hz hb1s B1 C
  go_wp2_with fail
  go_ret
  exact ⟨⟨A, c, rfl, HO.out⟩, HX.out⟩
theorem rg2_two : rg2 2 = [2, 3] := rfl
end Go.Proofs.YtlnckjemfabckaaDoor

/-
  gleaningref10.come: the slots that come of a handle, by the reference.
-/
namespace Go.Proofs.YtlnckjemfabckaaDoor
open Go.RowKit

/-- What turns one row, and makes memory. -/
structure RowStep (w w' : World) (v v' : Value) : Prop where
  g : w.grownBy w' v.ownBlock
  at_ : v'.ownBlock = v.ownBlock ∨ ∀ k, v'.ownBlock = some k → w.heap.size ≤ k
theorem RowStep.of_below {w w' : World} {v : Value} (h : Below w.heap.size w w') : RowStep w w' v v := ⟨grown_below h _, .inl rfl⟩
theorem RowStep.trans {a b c : World} {u v x : Value} (h : RowStep a b u v) (k : RowStep b c v x) : RowStep a c u x := by
  refine ⟨⟨k.g.os.trans h.g.os, k.g.tape.trans h.g.tape, k.g.output.trans h.g.output, Nat.le_trans h.g.size k.g.size, fun i hi hn => ?_⟩, ?_⟩
  · refine (k.g.block i (Nat.lt_of_lt_of_le hi h.g.size) (fun e => ?_)).trans (h.g.block i hi hn)
    rcases h.at_ with h1 | h1
    · exact hn (e.trans h1)
    · have := h1 i e.symm
      omega
  · rcases k.at_ with k1 | k1
    · rw [k1]; exact h.at_
    · exact .inr fun j hj => Nat.le_trans h.g.size (k1 j hj)
theorem RowStep.blk {w w' : World} {v v' : Value} {base n s g : Nat} {e T : TypeId} {xs : List Value} {cs : Array Value} (h : RowStep w w' v v') (ho : w.ownsRow base e s v n xs) (hb : Blk w g T cs) (hne : e ≠ T) : Blk w' g T cs :=
  hb.grown h.g (own_blk_ne ho hb hne).symm
theorem own_own_ne {w : World} {B B' n m s s' : Nat} {e e' : TypeId} {v u : Value} {xs ys : List Value} (h : w.ownsRow B e s v n xs) (k : w.ownsRow B' e' s' u m ys) (hne : e ≠ e') : u.ownBlock = none ∨ u.ownBlock ≠ v.ownBlock := by
  rcases k.2 with ⟨k1, _⟩ | ⟨g, cap, cur, k1, _, k2, _⟩
  · exact .inl (by rw [k1]; rfl)
  · refine .inr fun e9 => ?_
    rcases h.2 with ⟨h1, _⟩ | ⟨g', cap', cur', h1, _, h2, _⟩
    · rw [h1, k1] at e9
      simp [Value.ownBlock] at e9
    · rw [h1, k1] at e9
      have e9 : g = g' := by simpa [Value.ownBlock] using e9
      subst e9
      rw [h2] at k2
      injection k2 with k2
      injection k2 with _ k3 _
      exact hne k3
theorem RowStep.own {w w' : World} {v v' u : Value} {B B' n m s s' : Nat} {e e' : TypeId} {xs ys : List Value} (h : RowStep w w' v v') (ho : w.ownsRow B e s v n xs) (k : w.ownsRow B' e' s' u m ys) (hne : e ≠ e') : w'.ownsRow B' e' s' u m ys :=
  k.kept h.g (own_own_ne ho k hne)
theorem RowStep.below0 {w w' : World} {v' : Value} {n c : Nat} (h : RowStep w w' (.slice none n c) v') : Below w.heap.size w w' := ⟨h.g.os, h.g.tape, h.g.output, h.g.size, fun k hk => h.g.block k hk (fun e => by simp [Value.ownBlock] at e)⟩
structure CoW (g : Nat) (base gc gn : Nat) (s t f lm p : Int) (ws : List Int) (cn : Array Value) (Av : Option Addr) (cv : Nat) (vs : List Int) (w : World) (v0 : Value) (L : List Int) (A : Option Addr) (c : Nat) (wr : World) : Prop where
  bc : Blk wr gc 39 #[.int .i64 s, .int .i64 t, .int .i64 f, .int .i64 lm, .int .i64 p]
  bn : Blk wr gn 94 cn
  ov : wr.ownsRow base 24 1 (.slice Av vs.length cv) vs.length (ints .u64 vs)
  rb : RefOk wr g ws
  ol : wr.ownsRow base 3 1 (.slice A L.length c) L.length (ints .i64 L)
  st : RowStep w wr v0 (.slice A L.length c)
def CoZ (o0 : Value) (w1 : World) (o iv : Value) (wr : World) : Prop := o = o0 ∧ iv = .int .i64 0 ∧ w1 = wr
def CoI (g base gc gn : Nat) (s t f lm p : Int) (ws : List Int) (cn : Array Value) (Av : Option Addr) (cv : Nat) (vs : List Int) (w : World) (v0 : Value) (C : Nat → List Int) (o iv : Value) (wr : World) : Prop :=
  ∃ (k : Nat) (q : Int) (A : Option Addr) (c : Nat), iv = .int .i64 q ∧ q = (k : Int) ∧ k ≤ vs.length ∧ o = .slice A (C k).length c ∧ CoW g base gc gn s t f lm p ws cn Av cv vs w v0 (C k) A c wr
end Go.Proofs.YtlnckjemfabckaaDoor

/-
  The reference's Right, and gleaningref03.Words, gleaningref10.Same.
-/
namespace Go.Proofs.YtlnckjemfabckaaDoor
open Go.RowKit

def eqTo (l m : List Int) (k : Nat) : Prop := ∀ i, i < k → l.getD i 0 = m.getD i 0
theorem eq_of_eqTo {l m : List Int} (hl : l.length = m.length) (h : eqTo l m l.length) : l = m := by
  apply List.ext_getElem hl
  intro i h1 h2
  have := h i h1
  simpa [List.getD, h1, h2] using this
theorem ne_of_getD {l m : List Int} {i : Nat} (h : l.getD i 0 ≠ m.getD i 0) : ¬ l = m := fun e => h (by rw [e])

def WordsIn (l m : List Int) (w : World) (i : Value) (wr : World) : Prop := ∃ k : Nat, i = .int .i64 k ∧ k ≤ l.length ∧ eqTo l m k ∧ Below w.heap.size w wr

def sameB (b : Bool) (ks vs : List Int) (l : Int) (b' : Bool) (ks' vs' : List Int) (l' : Int) : Bool := b == b' && decide (ks = ks') && decide (vs = vs') && l == l'
end Go.Proofs.YtlnckjemfabckaaDoor

/-
  slices.Equal of words, arena.Same.
-/
namespace Go.Proofs.YtlnckjemfabckaaDoor
open Go.RowKit

def EqualIn (l m : List Int) (w : World) (i : Value) (wr : World) : Prop := ∃ k : Nat, i = .int .i64 k ∧ k ≤ l.length ∧ eqTo l m k ∧ Below w.heap.size w wr

end Go.Proofs.YtlnckjemfabckaaDoor

/-
  gleaningref10.Ints; memories that may not be; the first leaf of a machine that begins.
-/
namespace Go.Proofs.YtlnckjemfabckaaDoor
open Go.RowKit

def SlI (w : World) (B : Nat) (v : Value) (xs : List Int) : Prop := ∃ A c, v = .slice A xs.length c ∧ xs.length ≤ c ∧ c ≤ 9223372036854775807 ∧ Reads w B 1 A xs.length (ints .i64 xs)
theorem SlI.below {w w' : World} {B : Nat} {v : Value} {xs : List Int} (h : SlI w B v xs) (hb : Below B w w') : SlI w' B v xs := by
  obtain ⟨A, c, h1, h2, h3, h4⟩ := h
  exact ⟨A, c, h1, h2, h3, h4.below hb⟩
theorem SlI.more {w : World} {B B' : Nat} {v : Value} {xs : List Int} (h : SlI w B v xs) (hB : B ≤ B') : SlI w B' v xs := by
  obtain ⟨A, c, h1, h2, h3, h4⟩ := h
  exact ⟨A, c, h1, h2, h3, h4.1, fun hn => by obtain ⟨a, h5, h6, h7⟩ := h4.2 hn; exact ⟨a, h5, Nat.lt_of_lt_of_le h6 hB, h7⟩⟩
theorem SlI.of_own {w : World} {B : Nat} {e : TypeId} {A : Option Addr} {c : Nat} {xs : List Int} (h : w.ownsRow B e 1 (.slice A xs.length c) xs.length (ints .i64 xs)) : SlI w w.heap.size (.slice A xs.length c) xs := by
  have hr := Reads.of_own h
  rcases h.2 with ⟨h1, h2⟩ | ⟨g, cap, cur, hv, _, _, hc1, hc2, _⟩
  · injection h1 with h3 h4 h5
    exact ⟨A, c, rfl, by omega, by omega, hr⟩
  · injection hv with h3 h4 h5
    unfold maxLen at hc2
    exact ⟨A, c, rfl, by omega, by omega, hr⟩
def IntsIn (l m : List Int) (w : World) (i : Value) (wr : World) : Prop := ∃ k : Nat, i = .int .i64 k ∧ k ≤ l.length ∧ eqTo l m k ∧ Below w.heap.size w wr

theorem Sl.of_ref {w : World} {g : Nat} {ws : List Int} (h : RefOk w g ws) (hN : ws.length ≤ 1000000) : Sl w w.heap.size (.slice (some ⟨g, 0, none⟩) ws.length ws.length) ws :=
  ⟨_, _, rfl, Nat.le_refl _, by omega, reads_words h⟩
theorem cutW_whole (ws : List Int) (N : Nat) (h : ws.length = N) : cutW ws 0 N = ws := by
  unfold cutW
  rw [show (min (N : Int) ws.length).toNat = ws.length by omega, show (max (0 : Int) 0).toNat = 0 by omega, List.take_length]
  rfl
set_option maxHeartbeats 1000000 in
theorem anew10_no (s t f l p : Int) (w : World) (hT : Tab w) (hc : cfgOk s t f l p = false) :
    Calls Tryd.prog 10 #[.agg #[.int .i64 s, .int .i64 t, .int .i64 f, .int .i64 l, .int .i64 p]] w fun e w' => e = .returned (.pointer none) ∧ Below w.heap.size w w' := by
  have MN := hide (fun w2 hb => mnew_no s t f l p w2 (hT.below hb) hc)
  have B0 := (Below.refl w.heap.size w).alloc (Nat.le_refl _) (.cells #[.int .i64 s, .int .i64 t, .int .i64 f, .int .i64 l, .int .i64 p] 39)
  have bc := Blk.new w 39 #[.int .i64 s, .int .i64 t, .int .i64 f, .int .i64 l, .int .i64 p]
  have mc := fun i => bc.cell i
  clear hT hc
  go_enter Tryd.func10, Tryd.ntmps10
  go_wp2_with fail
  refine (MN.out _ B0).mono ?_
  rintro e w1 ⟨rfl, hb1⟩
  go_wp2_with fail
  go_ret
  exact ⟨rfl, B0.trans (hb1.mono B0.size)⟩
theorem beg_shp1 {s t f : Int} (hs : 1 ≤ s ∧ s ≤ 1000) (ht : 1 ≤ t ∧ t ≤ 64) (hf : 4 ≤ f ∧ f ≤ 64) : wGet (begL s t f) (nB t f 1 + 1) = 0 := by
  have b := nB_bd hs ht hf (sl := 1) (by omega)
  rw [beg_get (by omega)]
  have h2 := (at_or (t := t) (f := f) (j := nB t f 1 + 1) (k := 1) (c := 1) (by omega) (by omega)).1 (by omega)
  have hp : nB t f 1 + 1 ≠ 2 := by unfold nB; omega
  unfold begAt
  rw [if_neg hp]
  unfold bK bOR
  rw [h2.1, h2.2]
  simp
theorem beg_nodV {s t f : Int} (hs : 1 ≤ s ∧ s ≤ 1000) (ht : 1 ≤ t ∧ t ≤ 64) (hf : 4 ≤ f ∧ f ≤ 64) : nodV (begL s t f) t f 1 = [] := by
  have h : nodN (begL s t f) t f 1 = 0 := by
    unfold nodN
    rw [beg_shp1 hs ht hf]
    unfold ents
    rw [if_neg (by omega), if_neg (by omega)]
    rfl
  unfold nodV
  rw [h]
  rfl
theorem run_field2 (b : Bool) (A1 A2 : Option Addr) (n1 c1 n2 c2 : Nat) (l : Int) (w : World) : (Instr.field 94 (.agg #[.bool b, .slice A1 n1 c1, .slice A2 n2 c2, .int .u64 l]) 2).run Tryd.prog w = .ok (.slice A2 n2 c2) w := by kernel_rfl
end Go.Proofs.YtlnckjemfabckaaDoor

/-
  arena.Handle; nodes of slots that there are not.
-/
namespace Go.Proofs.YtlnckjemfabckaaDoor
open Go.RowKit

set_option maxRecDepth 100000 in
set_option maxHeartbeats 4000000 in
theorem ahandle_no (gm gw : Nat) (s t f l p k : Int) (ws : List Int) (w : World) (hs : 1 ≤ s ∧ s ≤ 1000) (ht : 1 ≤ t ∧ t ≤ 64) (hf : 4 ≤ f ∧ f ≤ 64) (hk : k < 1 ∨ s < k) (M : MemOk w gm gw s t f l p ws) :
    Calls Tryd.prog 59 #[.pointer (some ⟨gm, 0, none⟩), .int .i64 k] w fun e w' => e = .returned (.int .u64 0) ∧ Below w.heap.size w w' := by
  obtain ⟨m0, m1, m2, m3, m4⟩ := mem5 M
  by_cases h1 : k < 1
  · clear M hs ht hf hk
    go_enter Tryd.func59, Tryd.ntmps59
    go_wp2_with fail
    go_ret
    exact ⟨rfl, Below.refl _ _⟩
  · have CV := hide (fun w2 => lver_any s t f l p k w2 hs ht hf)
    rw [atpB_6no (hk.imp (fun h => absurd h h1) id)] at CV
    clear M hs ht hf hk
    go_enter Tryd.func59, Tryd.ntmps59
    go_wp2_with fail
    refine (CV.out _).mono ?_
    rintro e w1 ⟨rfl, hb⟩
    go_wp2_with fail
    go_ret
    exact ⟨rfl, hb⟩
theorem ahandle_yes (gm gw : Nat) (s t f l p k : Int) (ws : List Int) (w : World) (hs : 1 ≤ s ∧ s ≤ 1000) (ht : 1 ≤ t ∧ t ≤ 64) (hf : 4 ≤ f ∧ f ≤ 64) (hk : 1 ≤ k ∧ k ≤ s) (M : MemOk w gm gw s t f l p ws) (h64 : AllW64 ws) :
    Calls Tryd.prog 59 #[.pointer (some ⟨gm, 0, none⟩), .int .i64 k] w fun e w' => e = .returned (.int .u64 (hmk (vgen (wGet ws (nB t f k))) k)) ∧ Below w.heap.size w w' := by
  have hbd := nB_bd hs ht hf (sl := k) (by omega)
  have CV := hide (fun w2 => lver_any s t f l p k w2 hs ht hf)
  rw [atpB_6 (by omega)] at CV
  have WD := hide (fun w2 (h : MemOk w2 gm gw s t f l p ws) => word_any gm gw s t f l p (nB t f k) ws w2 h)
  have hx := wGet_w64 h64 (nB t f k)
  have G := hide (fun w2 => vgen_any (wGet ws (nB t f k)) w2 hx)
  have hg : W64 (vgen (wGet ws (nB t f k))) := by obtain ⟨a, b⟩ := hx; unfold vgen; exact ⟨by omega, by omega⟩
  have HM := hide (fun w2 => hnmake_any (vgen (wGet ws (nB t f k))) k w2 hg ⟨by omega, by omega⟩)
  generalize hmk (vgen (wGet ws (nB t f k))) k = r at *
  generalize vgen (wGet ws (nB t f k)) = gn at *
  generalize wGet ws (nB t f k) = x at *
  have h0 : ¬ k < 1 := by omega
  have h2 : ¬ nB t f k < 0 := by omega
  generalize nB t f k = a at *
  clear hs ht hf hk hbd hx hg h64
  obtain ⟨m0, m1, m2, m3, m4⟩ := mem5 M
  go_enter Tryd.func59, Tryd.ntmps59
  go_wp2_with fail
  refine (CV.out _).mono ?_
  rintro e w1 ⟨rfl, hb⟩
  replace M := M.below hb
  clear m0 m1 m2 m3 m4
  obtain ⟨m0, m1, m2, m3, m4⟩ := mem5 M
  go_wp2_with fail
  refine (CV.out _).mono ?_
  rintro e w2 ⟨rfl, hb2⟩
  replace M := M.below hb2
  replace hb := hb.trans (hb2.mono hb.size)
  clear m0 m1 m2 m3 m4 hb2
  go_wp2_with fail
  refine (WD.out _ M).mono ?_
  rintro e w3 ⟨rfl, rfl⟩
  go_wp2_with fail
  refine (G.out _).mono ?_
  rintro e w3 ⟨rfl, rfl⟩
  go_wp2_with fail
  refine (HM.out _).mono ?_
  rintro e w3 ⟨rfl, rfl⟩
  go_wp2_with fail
  go_ret
  exact ⟨rfl, hb⟩
theorem ndo_zero (w : World) (lo : Nat) : NdO w lo (.agg #[.bool false, .slice none 0 0, .slice none 0 0, .int .u64 0]) false [] [] 0 := ⟨_, _, rfl, World.ownsRow_nil _ _ _ _, World.ownsRow_nil _ _ _ _⟩
theorem mWri_w64 {ws : List Int} {l : List (Int × Int)} (h : AllW64 ws) (hl : ∀ r ∈ l, W64 r.2) : ∀ k, AllW64 (mWri ws l k)
  | 0 => h
  | k + 1 => wPut_w64 (mWri_w64 h hl k) (by
    by_cases hk : k < l.length
    · rw [show l.getD k (0, 0) = l[k] by simp [List.getD, hk]]
      exact hl _ (List.getElem_mem hk)
    · rw [show l.getD k (0, 0) = (0, 0) by simp [List.getD, Nat.le_of_not_lt hk]]
      exact ⟨by omega, by omega⟩)
theorem mDo_two (ws : List Int) (a n : Int) : (mDo ws 2 a 0 n).2 = wPut ws a n := by
  unfold mDo
  rw [if_neg (by omega), if_pos rfl]
end Go.Proofs.YtlnckjemfabckaaDoor

/-
  A node's words; handles' texts.
-/
namespace Go.Proofs.YtlnckjemfabckaaDoor
open Go.RowKit

def htx (h : Int) : ByteArray := (strOfNums (form 10 (hsl h).toNat) ++ ⟨#[58]⟩) ++ strOfNums (form 10 (hgn h).toNat)
theorem htx_size (h : Int) : (htx h).size ≤ 130 := by
  have h1 := form_size 10 (hsl h).toNat
  have h2 := form_size 10 (hgn h).toNat
  have h3 : (⟨#[58]⟩ : ByteArray).size = 1 := rfl
  unfold htx
  simp only [ba_size]
  omega
set_option maxHeartbeats 400000 in
theorem htext_any (h : Int) (w : World) (hh : W64 h) : Calls Tryd.prog 58 #[.int .u64 h] w fun e w' => e = .returned (.string (htx h)) ∧ Below w.heap.size w w' := by
  have Sl := hide (fun w => hnslot_any h w hh)
  have Gn := hide (fun w => hngen_any h w hh)
  have b : 0 ≤ hsl h ∧ hsl h < 65536 := by unfold hsl; omega
  have b' : 0 ≤ hgn h ∧ hgn h < 16777216 := by unfold hgn; omega
  obtain ⟨m, hm⟩ := Int.eq_ofNat_of_zero_le b.1
  obtain ⟨n, hn⟩ := Int.eq_ofNat_of_zero_le b'.1
  have In := hide (fun w => int_any (hsl h) w ⟨by omega, by omega⟩)
  have ei : intL (hsl h) = form 10 m := by
    unfold intL
    rw [hm, if_neg (by omega), Int.toNat_natCast]
  rw [ei] at In
  have Tx := hide (fun w => text_any n w (by omega))
  rw [← hn] at Tx
  have E := hide (show htx h = (strOfNums (form 10 m) ++ ⟨#[58]⟩) ++ strOfNums (form 10 n) by
    unfold htx
    rw [hm, hn, Int.toNat_natCast, Int.toNat_natCast])
  have z1 := form_size 10 m
  have z2 := form_size 10 n
  clear ei hm hn b b'
  generalize htx h = R at *
  generalize strOfNums (form 10 m) = s1 at *
  generalize strOfNums (form 10 n) = s2 at *
  have z3 : (s1 ++ (⟨#[58]⟩ : ByteArray)).size ≤ 65 := by
    rw [ByteArray.size_append]
    show s1.size + 1 ≤ 65
    omega
  generalize hsl h = sv at *
  generalize hgn h = gv at *
  go_enter Tryd.func58, Tryd.ntmps58
  go_wp2_with fail
  refine (Sl.out _).mono ?_
  rintro e w' ⟨rfl, rfl⟩
  go_wp2_with fail
  refine (In.out _).mono ?_
  rintro e w1 ⟨rfl, hb1⟩
  go_wp2_with fail
  refine (Gn.out _).mono ?_
  rintro e w' ⟨rfl, rfl⟩
  go_wp2_with fail
  refine (Tx.out _).mono ?_
  rintro e w2 ⟨rfl, hb2⟩
  go_wp2_with fail
  go_ret
  exact ⟨by rw [E.out]; rfl, hb1.trans (hb2.mono hb1.size)⟩

def numI (x : Int) : ByteArray := numT x.toNat
theorem numI_size (x : Int) : (numI x).size ≤ 64 := numT_size _
theorem texti_any (x : Int) (w : World) (hx : W64 x) : Calls Tryd.prog 13 #[.int .u64 x] w fun e w' => e = .returned (.string (numI x)) ∧ Below w.heap.size w w' := by
  obtain ⟨h1, h2⟩ := hx
  obtain ⟨n, rfl⟩ := Int.eq_ofNat_of_zero_le h1
  exact text_any n w (by omega)
theorem numberi_any (x : Int) (w : World) (hx : W64 x) : Calls Tryd.prog 15 #[.int .u64 x] w fun e w' => e = .returned (.string (numI x)) ∧ Below w.heap.size w w' := by
  obtain ⟨h1, h2⟩ := hx
  obtain ⟨n, rfl⟩ := Int.eq_ofNat_of_zero_le h1
  exact number_any n w (by omega)
def entT (k v : Int) : ByteArray := numI k ++ eq1 ++ numI v
theorem entT_size (k v : Int) : (entT k v).size ≤ 130 := by
  have h1 := numI_size k
  have h2 := numI_size v
  have h3 : eq1.size = 1 := rfl
  unfold entT
  simp only [ba_size]
  omega
set_option maxHeartbeats 400000 in
theorem dentry_any (k v : Int) (w : World) (hk : W64 k) (hv : W64 v) : Calls Tryd.prog 62 #[.int .u64 k, .int .u64 v] w fun e w' => e = .returned (.string (entT k v)) ∧ Below w.heap.size w w' := by
  have T1 := hide (fun w => texti_any k w hk)
  have T2 := hide (fun w => texti_any v w hv)
  have E := hide (show entT k v = numI k ++ eq1 ++ numI v from rfl)
  have z1 := numI_size k
  have z2 := numI_size v
  generalize entT k v = R at *
  generalize numI k = s1 at *
  generalize numI v = s2 at *
  clear hk hv
  go_enter Tryd.func62, Tryd.ntmps62
  go_wp2_with fail
  refine (T1.out _).mono ?_
  rintro e w1 ⟨rfl, hb1⟩
  go_wp2_with fail
  refine (T2.out _).mono ?_
  rintro e w2 ⟨rfl, hb2⟩
  go_wp2_with fail
  go_ret
  exact ⟨by rw [E.out]; rfl, hb1.trans (hb2.mono hb1.size)⟩

def anchorB : ByteArray := ⟨#[97, 110, 99, 104, 111, 114]⟩
def leafB : ByteArray := ⟨#[108, 101, 97, 102]⟩
def innerB : ByteArray := ⟨#[105, 110, 110, 101, 114]⟩
def lockedB : ByteArray := ⟨#[108, 111, 99, 107, 101, 100]⟩
def deadB : ByteArray := ⟨#[100, 101, 97, 100]⟩
def nextB : ByteArray := ⟨#[110, 101, 120, 116]⟩
def wA (s0 s1 : ByteArray) (lo : Bool) : List ByteArray := [s0, s1] ++ (if lo = true then [lockedB] else [])
def wB (s0 s1 : ByteArray) (lo de : Bool) : List ByteArray := wA s0 s1 lo ++ (if de = true then [deadB] else [])
def entW (b : Bool) (ks vs : List Int) (i : Nat) : List ByteArray :=
  if b = true then (if i = 0 then [htx (vs.getD i 0)] else [numI (ks.getD (i - 1) 0), htx (vs.getD i 0)]) else [entT (ks.getD i 0) (vs.getD i 0)]
def wC (W0 : List ByteArray) (b : Bool) (ks vs : List Int) (n : Nat) : List ByteArray := W0 ++ ((List.range n).map (entW b ks vs)).flatten
theorem wC_zero (W0 : List ByteArray) (b : Bool) (ks vs : List Int) : wC W0 b ks vs 0 = W0 := by simp [wC]
theorem wC_succ (W0 : List ByteArray) (b : Bool) (ks vs : List Int) (n : Nat) : wC W0 b ks vs (n + 1) = wC W0 b ks vs n ++ entW b ks vs n := by simp [wC, List.range_succ]
def nodeL (s0 s1 : ByteArray) (lo de b : Bool) (ks vs : List Int) (lk : Int) : List ByteArray :=
  wC (wB s0 s1 lo de) b ks vs vs.length ++ (if b = false ∧ lk ≠ 0 then [nextB, htx lk] else [])
theorem entW_len (b : Bool) (ks vs : List Int) (i : Nat) : (entW b ks vs i).length ≤ 2 := by
  unfold entW
  split
  · split <;> simp
  · simp
theorem wC_len (W0 : List ByteArray) (b : Bool) (ks vs : List Int) : ∀ n, (wC W0 b ks vs n).length ≤ W0.length + 2 * n
  | 0 => by rw [wC_zero]; omega
  | n + 1 => by
    have h1 := wC_len W0 b ks vs n
    have h2 := entW_len b ks vs n
    rw [wC_succ, List.length_append]
    omega
theorem wB_len (s0 s1 : ByteArray) (lo de : Bool) : (wB s0 s1 lo de).length ≤ 4 := by cases lo <;> cases de <;> simp [wB, wA]
theorem wB_ne (s0 s1 : ByteArray) (lo de : Bool) : wB s0 s1 lo de ≠ [] := by simp [wB, wA]
theorem wC_ne {W0 : List ByteArray} (h : W0 ≠ []) (b : Bool) (ks vs : List Int) (n : Nat) : wC W0 b ks vs n ≠ [] := by simp [wC, h]
theorem wB_ok {s0 s1 : ByteArray} (h0 : s0.size ≤ 140) (h1 : s1.size ≤ 140) (lo de : Bool) : ∀ x ∈ wB s0 s1 lo de, x.size ≤ 140 := by
  intro x hx
  have a1 : lockedB.size ≤ 140 := by decide
  have a2 : deadB.size ≤ 140 := by decide
  cases lo <;> cases de <;> simp [wB, wA] at hx <;> rcases hx with rfl | rfl | rfl | rfl <;> assumption
theorem entW_ok (b : Bool) (ks vs : List Int) (i : Nat) : ∀ x ∈ entW b ks vs i, x.size ≤ 140 := by
  intro x hx
  unfold entW at hx
  have h1 := htx_size (vs.getD i 0)
  have h2 := numI_size (ks.getD (i - 1) 0)
  have h3 := entT_size (ks.getD i 0) (vs.getD i 0)
  split at hx
  · split at hx
    · simp only [List.mem_cons, List.not_mem_nil, or_false] at hx
      subst hx
      omega
    · simp only [List.mem_cons, List.not_mem_nil, or_false] at hx
      rcases hx with rfl | rfl <;> omega
  · simp only [List.mem_cons, List.not_mem_nil, or_false] at hx
    subst hx
    omega
theorem wC_ok {W0 : List ByteArray} (h : ∀ x ∈ W0, x.size ≤ 140) (b : Bool) (ks vs : List Int) (n : Nat) : ∀ x ∈ wC W0 b ks vs n, x.size ≤ 140 := by
  intro x hx
  unfold wC at hx
  rw [List.mem_append] at hx
  rcases hx with hx | hx
  · exact h x hx
  · obtain ⟨l, hl, hx⟩ := List.mem_flatten.1 hx
    obtain ⟨i, _, rfl⟩ := List.mem_map.1 hl
    exact entW_ok b ks vs i x hx
theorem joinT_wC {W0 : List ByteArray} (h : ∀ x ∈ W0, x.size ≤ 140) (hl : W0.length ≤ 4) (b : Bool) (ks vs : List Int) (n : Nat) (hn : n ≤ 64) : (joinT (wC W0 b ks vs n)).size ≤ 20000 := by
  have h1 := joinT_size_le _ 140 (wC_ok h b ks vs n)
  have h2 := wC_len W0 b ks vs n
  have h3 := Nat.mul_le_mul_right (140 + 1) (show (wC W0 b ks vs n).length ≤ 132 by omega)
  omega
theorem joinT_nodeL {s0 s1 : ByteArray} (h0 : s0.size ≤ 140) (h1 : s1.size ≤ 140) (lo de b : Bool) (ks vs : List Int) (lk : Int) (hv : vs.length ≤ 64) : (joinT (nodeL s0 s1 lo de b ks vs lk)).size ≤ 20000 := by
  have h2 := joinT_size_le (nodeL s0 s1 lo de b ks vs lk) 140 (fun x hx => by
    unfold nodeL at hx
    rw [List.mem_append] at hx
    rcases hx with hx | hx
    · exact wC_ok (wB_ok h0 h1 lo de) b ks vs _ x hx
    · split at hx
      · simp only [List.mem_cons, List.not_mem_nil, or_false] at hx
        rcases hx with rfl | rfl
        · decide
        · have := htx_size lk; omega
      · cases hx)
  have h3 := wC_len (wB s0 s1 lo de) b ks vs vs.length
  have h4 := wB_len s0 s1 lo de
  have h5 : (nodeL s0 s1 lo de b ks vs lk).length ≤ 134 := by
    unfold nodeL
    rw [List.length_append]
    split <;> simp <;> omega
  have h6 := Nat.mul_le_mul_right (140 + 1) h5
  omega
def nodeT (ws : List Int) (t f k : Int) : ByteArray :=
  joinT (nodeL (if k = 0 then anchorB else htx (hmk (vgen (wGet ws (nB t f k))) k)) (if nodI ws t f k = true then innerB else leafB) (vlocked (wGet ws (nB t f k))) (vdead (wGet ws (nB t f k))) (nodI ws t f k) (nodK ws t f k) (nodV ws t f k) (nodL ws t f k))
theorem nodeT_size (ws : List Int) (t f k : Int) (h64 : AllW64 ws) (hf : 4 ≤ f ∧ f ≤ 64) : (nodeT ws t f k).size ≤ 20000 := by
  refine joinT_nodeL ?_ ?_ _ _ _ _ _ _ ?_
  · split
    · decide
    · have := htx_size (hmk (vgen (wGet ws (nB t f k))) k); omega
  · split <;> decide
  · have h1 := nodN_le (t := t) (k := k) h64 hf
    unfold nodV
    rw [rowL_len]
    omega
end Go.Proofs.YtlnckjemfabckaaDoor

/-
  dump.Node.
-/
namespace Go.Proofs.YtlnckjemfabckaaDoor
open Go.RowKit

theorem own_of_blk {w : World} {g n lo : Nat} {e : TypeId} {cs : Array Value} (h : Blk w g e cs) (hlo : lo ≤ g) (hn : cs.size = n) (hm : n ≤ 1000) : w.ownsRow lo e 1 (.slice (some ⟨g, 0, none⟩) n n) n cs.toList := by
  subst hn
  exact ⟨by simp, .inr ⟨g, cs.size, cs, rfl, hlo, h, Nat.le_refl _, by unfold maxLen; omega, by simp, List.take_of_length_le (by simp)⟩⟩
/-- What stands behind the loads of a node and its version. -/
def NdC (g0 gm gw : Nat) (s t f l p : Int) (ws : List Int) (x : Int) (b : Bool) (ks vs : List Int) (lk : Int) (w : World) (v5 v6 : Value) (wr : World) : Prop :=
  ∃ (bn : Nat) (kv uv : Value), v5 = .pointer (some ⟨bn, 0, none⟩) ∧ v6 = .int .u64 x ∧ Blk wr bn 94 #[.bool b, kv, uv, .int .u64 lk] ∧ Own wr g0 kv ks ∧ Own wr g0 uv vs ∧ MemOk wr gm gw s t f l p ws ∧ Below g0 w wr
def NdW (g4 : Nat) (ws : List ByteArray) (w4 : World) (v : Value) (wr : World) : Prop :=
  ∃ (A : Option Addr) (n c : Nat), v = .slice A n c ∧ ws.length = n ∧ wr.ownsRow g4 9 1 (.slice A n c) n (strs ws) ∧ Below g4 w4 wr
def NdLp (g4 N : Nat) (W0 : List ByteArray) (b : Bool) (ks vs : List Int) (w4 : World) (v7 v58 : Value) (wr : World) : Prop :=
  ∃ (j n : Nat) (A : Option Addr) (c : Nat), v58 = .int .i64 j ∧ j ≤ N ∧ v7 = .slice A n c ∧ 0 < n ∧ n ≤ 4 + 2 * j ∧ wr.ownsRow g4 9 1 (.slice A n c) n (strs (wC W0 b ks vs j)) ∧ Below g4 w4 wr
set_option maxRecDepth 100000 in
set_option maxHeartbeats 4000000 in
theorem dnode_in (gm gw : Nat) (s t f l p k : Int) (ws : List Int) (w : World) (hs : 1 ≤ s ∧ s ≤ 1000) (ht : 1 ≤ t ∧ t ≤ 64) (hf : 4 ≤ f ∧ f ≤ 64) (hk : 0 ≤ k ∧ k ≤ s) (M : MemOk w gm gw s t f l p ws) (h64 : AllW64 ws) (hin : nodI ws t f k = true) :
    Calls Tryd.prog 35 #[.pointer (some ⟨gm, 0, none⟩), .int .i64 k] w fun e w' => e = .returned (.string (nodeT ws t f k)) ∧ Below w.heap.size w w' := by
  obtain ⟨i0, hi0, hz0, hs0, hb0⟩ := info_parts infoStr
  have hbd := nB_bd hs ht hf (sl := k) (by omega)
  have CV := hide (fun w2 => lver_any s t f l p k w2 hs ht hf)
  rw [atpB_6 (by omega)] at CV
  have WD := hide (fun w2 (h : MemOk w2 gm gw s t f l p ws) => word_any gm gw s t f l p (nB t f k) ws w2 h)
  have AN := hide (fun w2 M => anode_yes gm gw s t f l p k ws w2 hs ht hf hk M h64)
  have hx := wGet_w64 h64 (nB t f k)
  have VL := hide (fun w2 => vlocked_any (wGet ws (nB t f k)) w2 hx)
  have VD := hide (fun w2 => vdead_any (wGet ws (nB t f k)) w2 hx)
  have HH : ∃ hv : Int, W64 hv ∧ (∀ w2, MemOk w2 gm gw s t f l p ws → Calls Tryd.prog 59 #[.pointer (some ⟨gm, 0, none⟩), .int .i64 k] w2 fun e w' => e = .returned (.int .u64 hv) ∧ Below w2.heap.size w2 w') ∧ (k ≠ 0 → hv = hmk (vgen (wGet ws (nB t f k))) k) := by
    by_cases h0 : k = 0
    · exact ⟨0, ⟨by omega, by omega⟩, fun w2 M => ahandle_no gm gw s t f l p k ws w2 hs ht hf (by omega) M, fun h => absurd h0 h⟩
    · exact ⟨_, hmk_bound _ _, fun w2 M => ahandle_yes gm gw s t f l p k ws w2 hs ht hf (by omega) M h64, fun _ => rfl⟩
  obtain ⟨hv, hvw, HHC, HHV⟩ := HH
  replace HHC := hide HHC
  have HT := hide (fun w2 => htext_any hv w2 hvw)
  have HK64 := hide (show ∀ x ∈ nodK ws t f k, W64 x from rowL_w64 h64 _ _)
  have HV64 := hide (show ∀ x ∈ nodV ws t f k, W64 x from rowL_w64 h64 _ _)
  have HLK := hide (show W64 (nodL ws t f k) from wGet_w64 h64 _)
  have HVN := hide (show (nodV ws t f k).length ≤ 64 by
    have h1 := nodN_le (t := t) (k := k) h64 hf
    unfold nodV
    rw [rowL_len]
    omega)
  have HKN := hide (show (nodK ws t f k).length = (nodV ws t f k).length - 1 by
    unfold nodK nodV
    rw [rowL_len, rowL_len]
    unfold nodKn
    rw [hin]
    simp)
  have HSZ := hide (nodeT_size ws t f k h64 hf)
  obtain ⟨s0, hs0'⟩ : ∃ s0, s0 = (if k = 0 then anchorB else htx hv) := ⟨_, rfl⟩
  have E := hide (show nodeT ws t f k = joinT (nodeL s0 innerB (vlocked (wGet ws (nB t f k))) (vdead (wGet ws (nB t f k))) true (nodK ws t f k) (nodV ws t f k) (nodL ws t f k)) by
    unfold nodeT
    rw [hin, hs0']
    by_cases h0 : k = 0
    · rw [if_pos h0, if_pos h0]
      rfl
    · rw [if_neg h0, if_neg h0, HHV h0]
      rfl)
  have HS0 := hide hs0'
  rw [hin] at AN
  have h2 : ¬ nB t f k < 0 := by omega
  generalize nodeT ws t f k = R at *
  generalize vlocked (wGet ws (nB t f k)) = lo at *
  generalize vdead (wGet ws (nB t f k)) = de at *
  generalize wGet ws (nB t f k) = x at *
  generalize nodK ws t f k = ks at *
  generalize nodV ws t f k = vs at *
  generalize nodL ws t f k = lk at *
  generalize nB t f k = a at *
  have B0 := Below.refl w.heap.size w
  clear hs ht hf hk hbd hx h64 hin hs0' HHV hvw
  obtain ⟨m0, m1, m2, m3, m4⟩ := mem5 M
  go_enter Tryd.func35, Tryd.ntmps35
  go_wp2_with fail
  refine (CV.out _).mono ?_
  rintro e w1 ⟨rfl, hb1⟩
  replace M := M.below hb1
  replace B0 := B0.trans (hb1.mono B0.size)
  clear m0 m1 m2 m3 m4 hb1
  go_upto_region 3 with fail
  go_cut [5, 6] from 21 to 31 (fun s5 s6 wx => NdC w.heap.size gm gw s t f l p ws x true ks vs lk w s5 s6 wx)
  case first =>
    refine wp_region_heldZ [] (fun w' => w'.cell? ⟨gm, 0, none⟩ = some (.int .i64 s) ∧ w'.cell? ⟨gm, 1, none⟩ = some (.int .i64 t) ∧ w'.cell? ⟨gm, 2, none⟩ = some (.int .i64 f) ∧ w'.cell? ⟨gm, 3, none⟩ = some (.int .i64 l) ∧ w'.cell? ⟨gm, 4, none⟩ = some (.int .i64 p)) (by kernel_rfl) (by exact mem5 M) (fun hHeld => ?_)
    replace M := (show MemOk w1.drew gm gw s t f l p ws from ⟨M.1, M.2⟩)
    replace B0 := B0.drew
    generalize w1.drew = w1d at *
    refine' wpAnyZ_takeA (i := 0) (v := ?_) (opAt rfl) (by kernel_rfl) (by kernel_rfl) (by kernel_rfl) (by kernel_rfl) (fun _ _ _ h => h) (by assumption) (by rfl) (fun w hSw => ?_) ?_
    rotate_left
    · (try dsimp only at hSw); go_simp; (try with_reducible rfl)
    try simp only [Act.put, List.setIfInBounds_toArray, List.set_cons_zero, List.set_cons_succ]
    refine' wpAnyZ_takeA (i := 1) (v := ?_) (opAt rfl) (by kernel_rfl) (by kernel_rfl) (by kernel_rfl) (by kernel_rfl) (fun _ _ _ h => h) (by assumption) (by rfl) (fun w hSw => ?_) ?_
    rotate_left
    · (try dsimp only at hSw); go_simp; (try with_reducible rfl)
    try simp only [Act.put, List.setIfInBounds_toArray, List.set_cons_zero, List.set_cons_succ]
    refine' wpAnyZ_takeA (i := 3) (v := ?_) (opAt rfl) (by kernel_rfl) (by kernel_rfl) (by kernel_rfl) (by kernel_rfl) (fun _ _ _ h => h) (by assumption) (by rfl) (fun w hSw => ?_) ?_
    rotate_left
    · (try dsimp only at hSw); go_simp; (try with_reducible rfl)
    try simp only [Act.put, List.setIfInBounds_toArray, List.set_cons_zero, List.set_cons_succ]
    refine' wpAnyZ_takeA (i := 4) (v := ?_) (opAt rfl) (by kernel_rfl) (by kernel_rfl) (by kernel_rfl) (by kernel_rfl) (fun _ _ _ h => h) (by assumption) (by rfl) (fun w hSw => ?_) ?_
    rotate_left
    · (try dsimp only at hSw); go_simp; (try with_reducible rfl)
    try simp only [Act.put, List.setIfInBounds_toArray, List.set_cons_zero, List.set_cons_succ]
    refine' wpAnyZ_takeA (i := 5) (v := ?_) (opAt rfl) (by kernel_rfl) (by kernel_rfl) (by kernel_rfl) (by kernel_rfl) (fun _ _ _ h => h) (by assumption) (by rfl) (fun w hSw => ?_) ?_
    rotate_left
    · (try dsimp only at hSw); go_simp; (try with_reducible rfl)
    try simp only [Act.put, List.setIfInBounds_toArray, List.set_cons_zero, List.set_cons_succ]
    refine' wpAnyZ_takeA (i := 6) (v := ?_) (opAt rfl) (by kernel_rfl) (by kernel_rfl) (by kernel_rfl) (by kernel_rfl) (fun _ _ _ h => h) (by assumption) (by rfl) (fun w hSw => ?_) ?_
    rotate_left
    · (try dsimp only at hSw); go_simp; (try with_reducible rfl)
    try simp only [Act.put, List.setIfInBounds_toArray, List.set_cons_zero, List.set_cons_succ]
    refine' wpAnyZ_takeA (i := 7) (v := ?_) (opAt rfl) (by kernel_rfl) (by kernel_rfl) (by kernel_rfl) (by kernel_rfl) (fun _ _ _ h => h) (by assumption) (by rfl) (fun w hSw => ?_) ?_
    rotate_left
    · (try dsimp only at hSw); go_simp; (try with_reducible rfl)
    try simp only [Act.put, List.setIfInBounds_toArray, List.set_cons_zero, List.set_cons_succ]
    refine' wpAnyZ_takeA (i := 8) (v := ?_) (opAt rfl) (by kernel_rfl) (by kernel_rfl) (by kernel_rfl) (by kernel_rfl) (fun _ _ _ h => h) (by assumption) (by rfl) (fun w hSw => ?_) ?_
    rotate_left
    · (try dsimp only at hSw); go_simp; (try with_reducible rfl)
    try simp only [Act.put, List.setIfInBounds_toArray, List.set_cons_zero, List.set_cons_succ]
    refine wpAnyZ_ready (rs := [2, 11]) (by kernel_rfl) (by simp) ?_
    refine AllReadyZ.cons (opAt rfl) (fun K hK => ?_) ?_
    · skip
      go_simp
      refine (AN.out _ M).mono ?_
      rintro e w2 ⟨⟨v, rfl, hnd⟩, hb1⟩
      obtain ⟨kv, uv, rfl, o1, o2⟩ := hnd
      obtain ⟨A1, c1, rfl, _⟩ := own_reads o1
      obtain ⟨A2, c2, rfl, _⟩ := own_reads o2
      replace M := M.below hb1
      have o1 := own_mono o1 B0.size
      have o2 := own_mono o2 B0.size
      replace B0 := B0.trans (hb1.mono B0.size)
      clear hb1
      refine hK.out _ _ (by exact mem5 M) (fun hHeld => ?_)
      clear hK K
      try simp only [Act.put, List.setIfInBounds_toArray, List.set_cons_zero, List.set_cons_succ]
      refine wpAnyZ_ready (rs := [9, 11]) (by kernel_rfl) (by simp) ?_
      refine AllReadyZ.cons (opAt rfl) (fun K hK => ?_) ?_
      · skip
        go_simp
        refine (CV.out _).mono ?_
        rintro e w3 ⟨rfl, hb1⟩
        replace M := M.below hb1
        replace o1 := own_below o1 hb1
        replace o2 := own_below o2 hb1
        replace B0 := B0.trans (hb1.mono B0.size)
        clear hb1
        refine hK.out _ _ (by exact mem5 M) (fun hHeld => ?_)
        clear hK K
        try simp only [Act.put, List.setIfInBounds_toArray, List.set_cons_zero, List.set_cons_succ]
        refine wpAnyZ_ready (rs := [10, 11]) (by kernel_rfl) (by simp) ?_
        refine AllReadyZ.cons (opAt rfl) (fun K hK => ?_) ?_
        · skip
          go_simp
          refine (WD.out _ M).mono ?_
          rintro e w4 ⟨rfl, rfl⟩
          refine hK.out _ _ (by exact mem5 M) (fun hHeld => ?_)
          clear hK K
          try simp only [Act.put, List.setIfInBounds_toArray, List.set_cons_zero, List.set_cons_succ]
          refine wpAnyZ_ready (rs := [11]) (by kernel_rfl) (by simp) ?_
          refine AllReadyZ.cons (opAt rfl) (fun K hK => ?_) ?_
          · skip
            go_simp
            have bn := Blk.new w3 94 #[.bool false, .slice none 0 0, .slice none 0 0, .int .u64 0]
            have HGX := hide (show w.heap.size ≤ w3.heap.size from B0.size)
            have HGM := hide (show gm ≠ w3.heap.size ∧ gw ≠ w3.heap.size from ⟨Nat.ne_of_lt (Blk.lt M.1), Nat.ne_of_lt (Blk.lt M.2.1)⟩)
            replace M := M.below ((Below.refl w3.heap.size w3).alloc (Nat.le_refl _) (.cells #[.bool false, .slice none 0 0, .slice none 0 0, .int .u64 0] 94))
            replace o1 := World.ownsRow.alloc o1 (.cells #[.bool false, .slice none 0 0, .slice none 0 0, .int .u64 0] 94)
            replace o2 := World.ownsRow.alloc o2 (.cells #[.bool false, .slice none 0 0, .slice none 0 0, .int .u64 0] 94)
            replace B0 := B0.alloc B0.size (.cells #[.bool false, .slice none 0 0, .slice none 0 0, .int .u64 0] 94)
            generalize w3.alloc (.cells #[.bool false, .slice none 0 0, .slice none 0 0, .int .u64 0] 94) = w5 at *
            generalize w3.heap.size = gx at *
            refine hK.out _ _ (by exact mem5 M) (fun hHeld => ?_)
            clear hK K
            try simp only [Act.put, List.setIfInBounds_toArray, List.set_cons_zero, List.set_cons_succ]
            refine wpAnyZ_ready (rs := [12]) (by kernel_rfl) (by simp) ?_
            refine AllReadyZ.cons (opAt rfl) (fun K hK => ?_) ?_
            · skip
              have zn := fun i => bn.frozen i
              have mn := fun i => bn.cell i
              go_simp
              clear zn mn
              replace M := M.grown (grown_set _ gx 0 (.bool true)) (fun e => by injection e with e; exact HGM.out.1 e) (fun e => by injection e with e; exact HGM.out.2 e)
              replace M := M.grown (grown_set _ gx 1 (.slice A1 ks.length c1)) (fun e => by injection e with e; exact HGM.out.1 e) (fun e => by injection e with e; exact HGM.out.2 e)
              replace M := M.grown (grown_set _ gx 2 (.slice A2 vs.length c2)) (fun e => by injection e with e; exact HGM.out.1 e) (fun e => by injection e with e; exact HGM.out.2 e)
              replace M := M.grown (grown_set _ gx 3 (.int .u64 lk)) (fun e => by injection e with e; exact HGM.out.1 e) (fun e => by injection e with e; exact HGM.out.2 e)
              have HO := hide (And.intro o1 o2)
              clear o1 o2
              have o1 := own_setT (own_setT (own_setT (own_setT (show w5.ownsRow _ _ _ _ _ _ from HO.out.1) bn (by decide) 0 (.bool true)) (bn.set_ 0 (.bool true)) (by decide) 1 (.slice A1 ks.length c1)) ((bn.set_ 0 (.bool true)).set_ 1 (.slice A1 ks.length c1)) (by decide) 2 (.slice A2 vs.length c2)) (((bn.set_ 0 (.bool true)).set_ 1 (.slice A1 ks.length c1)).set_ 2 (.slice A2 vs.length c2)) (by decide) 3 (.int .u64 lk)
              have o2 := own_setT (own_setT (own_setT (own_setT (show w5.ownsRow _ _ _ _ _ _ from HO.out.2) bn (by decide) 0 (.bool true)) (bn.set_ 0 (.bool true)) (by decide) 1 (.slice A1 ks.length c1)) ((bn.set_ 0 (.bool true)).set_ 1 (.slice A1 ks.length c1)) (by decide) 2 (.slice A2 vs.length c2)) (((bn.set_ 0 (.bool true)).set_ 1 (.slice A1 ks.length c1)).set_ 2 (.slice A2 vs.length c2)) (by decide) 3 (.int .u64 lk)
              clear HO
              replace B0 := below_setN (g := gx) B0 HGX.out (.bool true) (.slice A1 ks.length c1) (.slice A2 vs.length c2) (.int .u64 lk)
              replace bn := bn.setN (.bool true) (.slice A1 ks.length c1) (.slice A2 vs.length c2) (.int .u64 lk)
              generalize (((w5.setCell ⟨gx, 0, none⟩ (.bool true)).setCell ⟨gx, 1, none⟩ (.slice A1 ks.length c1)).setCell ⟨gx, 2, none⟩ (.slice A2 vs.length c2)).setCell ⟨gx, 3, none⟩ (.int .u64 lk) = wz at *
              refine hK.out _ _ (by exact mem5 M) (fun hHeld => ?_)
              clear hK K
              try simp only [Act.put, List.setIfInBounds_toArray, List.set_cons_zero, List.set_cons_succ]
              refine' wpAnyZ_takeA (i := 13) (v := ?_) (opAt rfl) (by kernel_rfl) (by kernel_rfl) (by kernel_rfl) (by kernel_rfl) (fun _ _ _ h => h) (by assumption) (by rfl) (fun w hSw => ?_) ?_
              rotate_left
              · (try dsimp only at hSw); go_simp; (try with_reducible rfl)
              try simp only [Act.put, List.setIfInBounds_toArray, List.set_cons_zero, List.set_cons_succ]
              refine wpAnyZ_done (by kernel_rfl) ?_ _
              go_wp2_with fail
              go_meet
              exact ⟨gx, _, _, rfl, rfl, bn, o1, o2, M, B0⟩
            exact AllReadyZ.nil
          exact AllReadyZ.nil
        refine AllReadyZ.cons (opAt rfl) (fun K hK => ?_) ?_
        · skip
          go_simp
          have bn := Blk.new w3 94 #[.bool false, .slice none 0 0, .slice none 0 0, .int .u64 0]
          have HGX := hide (show w.heap.size ≤ w3.heap.size from B0.size)
          have HGM := hide (show gm ≠ w3.heap.size ∧ gw ≠ w3.heap.size from ⟨Nat.ne_of_lt (Blk.lt M.1), Nat.ne_of_lt (Blk.lt M.2.1)⟩)
          replace M := M.below ((Below.refl w3.heap.size w3).alloc (Nat.le_refl _) (.cells #[.bool false, .slice none 0 0, .slice none 0 0, .int .u64 0] 94))
          replace o1 := World.ownsRow.alloc o1 (.cells #[.bool false, .slice none 0 0, .slice none 0 0, .int .u64 0] 94)
          replace o2 := World.ownsRow.alloc o2 (.cells #[.bool false, .slice none 0 0, .slice none 0 0, .int .u64 0] 94)
          replace B0 := B0.alloc B0.size (.cells #[.bool false, .slice none 0 0, .slice none 0 0, .int .u64 0] 94)
          generalize w3.alloc (.cells #[.bool false, .slice none 0 0, .slice none 0 0, .int .u64 0] 94) = w4 at *
          generalize w3.heap.size = gx at *
          refine hK.out _ _ (by exact mem5 M) (fun hHeld => ?_)
          clear hK K
          try simp only [Act.put, List.setIfInBounds_toArray, List.set_cons_zero, List.set_cons_succ]
          refine wpAnyZ_ready (rs := [10]) (by kernel_rfl) (by simp) ?_
          refine AllReadyZ.cons (opAt rfl) (fun K hK => ?_) ?_
          · skip
            go_simp
            refine (WD.out _ M).mono ?_
            rintro e w5 ⟨rfl, rfl⟩
            refine hK.out _ _ (by exact mem5 M) (fun hHeld => ?_)
            clear hK K
            try simp only [Act.put, List.setIfInBounds_toArray, List.set_cons_zero, List.set_cons_succ]
            refine wpAnyZ_ready (rs := [12]) (by kernel_rfl) (by simp) ?_
            refine AllReadyZ.cons (opAt rfl) (fun K hK => ?_) ?_
            · skip
              have zn := fun i => bn.frozen i
              have mn := fun i => bn.cell i
              go_simp
              clear zn mn
              replace M := M.grown (grown_set _ gx 0 (.bool true)) (fun e => by injection e with e; exact HGM.out.1 e) (fun e => by injection e with e; exact HGM.out.2 e)
              replace M := M.grown (grown_set _ gx 1 (.slice A1 ks.length c1)) (fun e => by injection e with e; exact HGM.out.1 e) (fun e => by injection e with e; exact HGM.out.2 e)
              replace M := M.grown (grown_set _ gx 2 (.slice A2 vs.length c2)) (fun e => by injection e with e; exact HGM.out.1 e) (fun e => by injection e with e; exact HGM.out.2 e)
              replace M := M.grown (grown_set _ gx 3 (.int .u64 lk)) (fun e => by injection e with e; exact HGM.out.1 e) (fun e => by injection e with e; exact HGM.out.2 e)
              have HO := hide (And.intro o1 o2)
              clear o1 o2
              have o1 := own_setT (own_setT (own_setT (own_setT (show w4.ownsRow _ _ _ _ _ _ from HO.out.1) bn (by decide) 0 (.bool true)) (bn.set_ 0 (.bool true)) (by decide) 1 (.slice A1 ks.length c1)) ((bn.set_ 0 (.bool true)).set_ 1 (.slice A1 ks.length c1)) (by decide) 2 (.slice A2 vs.length c2)) (((bn.set_ 0 (.bool true)).set_ 1 (.slice A1 ks.length c1)).set_ 2 (.slice A2 vs.length c2)) (by decide) 3 (.int .u64 lk)
              have o2 := own_setT (own_setT (own_setT (own_setT (show w4.ownsRow _ _ _ _ _ _ from HO.out.2) bn (by decide) 0 (.bool true)) (bn.set_ 0 (.bool true)) (by decide) 1 (.slice A1 ks.length c1)) ((bn.set_ 0 (.bool true)).set_ 1 (.slice A1 ks.length c1)) (by decide) 2 (.slice A2 vs.length c2)) (((bn.set_ 0 (.bool true)).set_ 1 (.slice A1 ks.length c1)).set_ 2 (.slice A2 vs.length c2)) (by decide) 3 (.int .u64 lk)
              clear HO
              replace B0 := below_setN (g := gx) B0 HGX.out (.bool true) (.slice A1 ks.length c1) (.slice A2 vs.length c2) (.int .u64 lk)
              replace bn := bn.setN (.bool true) (.slice A1 ks.length c1) (.slice A2 vs.length c2) (.int .u64 lk)
              generalize (((w4.setCell ⟨gx, 0, none⟩ (.bool true)).setCell ⟨gx, 1, none⟩ (.slice A1 ks.length c1)).setCell ⟨gx, 2, none⟩ (.slice A2 vs.length c2)).setCell ⟨gx, 3, none⟩ (.int .u64 lk) = wz at *
              refine hK.out _ _ (by exact mem5 M) (fun hHeld => ?_)
              clear hK K
              try simp only [Act.put, List.setIfInBounds_toArray, List.set_cons_zero, List.set_cons_succ]
              refine' wpAnyZ_takeA (i := 13) (v := ?_) (opAt rfl) (by kernel_rfl) (by kernel_rfl) (by kernel_rfl) (by kernel_rfl) (fun _ _ _ h => h) (by assumption) (by rfl) (fun w hSw => ?_) ?_
              rotate_left
              · (try dsimp only at hSw); go_simp; (try with_reducible rfl)
              try simp only [Act.put, List.setIfInBounds_toArray, List.set_cons_zero, List.set_cons_succ]
              refine wpAnyZ_done (by kernel_rfl) ?_ _
              go_wp2_with fail
              go_meet
              exact ⟨gx, _, _, rfl, rfl, bn, o1, o2, M, B0⟩
            exact AllReadyZ.nil
          exact AllReadyZ.nil
        exact AllReadyZ.nil
      refine AllReadyZ.cons (opAt rfl) (fun K hK => ?_) ?_
      · skip
        go_simp
        have bn := Blk.new w2 94 #[.bool false, .slice none 0 0, .slice none 0 0, .int .u64 0]
        have HGX := hide (show w.heap.size ≤ w2.heap.size from B0.size)
        have HGM := hide (show gm ≠ w2.heap.size ∧ gw ≠ w2.heap.size from ⟨Nat.ne_of_lt (Blk.lt M.1), Nat.ne_of_lt (Blk.lt M.2.1)⟩)
        replace M := M.below ((Below.refl w2.heap.size w2).alloc (Nat.le_refl _) (.cells #[.bool false, .slice none 0 0, .slice none 0 0, .int .u64 0] 94))
        replace o1 := World.ownsRow.alloc o1 (.cells #[.bool false, .slice none 0 0, .slice none 0 0, .int .u64 0] 94)
        replace o2 := World.ownsRow.alloc o2 (.cells #[.bool false, .slice none 0 0, .slice none 0 0, .int .u64 0] 94)
        replace B0 := B0.alloc B0.size (.cells #[.bool false, .slice none 0 0, .slice none 0 0, .int .u64 0] 94)
        generalize w2.alloc (.cells #[.bool false, .slice none 0 0, .slice none 0 0, .int .u64 0] 94) = w3 at *
        generalize w2.heap.size = gx at *
        refine hK.out _ _ (by exact mem5 M) (fun hHeld => ?_)
        clear hK K
        try simp only [Act.put, List.setIfInBounds_toArray, List.set_cons_zero, List.set_cons_succ]
        refine wpAnyZ_ready (rs := [9]) (by kernel_rfl) (by simp) ?_
        refine AllReadyZ.cons (opAt rfl) (fun K hK => ?_) ?_
        · skip
          go_simp
          refine (CV.out _).mono ?_
          rintro e w4 ⟨rfl, hb1⟩
          replace M := M.below hb1
          replace bn := bn.below hb1 bn.lt
          replace o1 := own_below o1 hb1
          replace o2 := own_below o2 hb1
          replace B0 := B0.trans (hb1.mono B0.size)
          clear hb1
          refine hK.out _ _ (by exact mem5 M) (fun hHeld => ?_)
          clear hK K
          try simp only [Act.put, List.setIfInBounds_toArray, List.set_cons_zero, List.set_cons_succ]
          refine wpAnyZ_ready (rs := [10]) (by kernel_rfl) (by simp) ?_
          refine AllReadyZ.cons (opAt rfl) (fun K hK => ?_) ?_
          · skip
            go_simp
            refine (WD.out _ M).mono ?_
            rintro e w5 ⟨rfl, rfl⟩
            refine hK.out _ _ (by exact mem5 M) (fun hHeld => ?_)
            clear hK K
            try simp only [Act.put, List.setIfInBounds_toArray, List.set_cons_zero, List.set_cons_succ]
            refine wpAnyZ_ready (rs := [12]) (by kernel_rfl) (by simp) ?_
            refine AllReadyZ.cons (opAt rfl) (fun K hK => ?_) ?_
            · skip
              have zn := fun i => bn.frozen i
              have mn := fun i => bn.cell i
              go_simp
              clear zn mn
              replace M := M.grown (grown_set _ gx 0 (.bool true)) (fun e => by injection e with e; exact HGM.out.1 e) (fun e => by injection e with e; exact HGM.out.2 e)
              replace M := M.grown (grown_set _ gx 1 (.slice A1 ks.length c1)) (fun e => by injection e with e; exact HGM.out.1 e) (fun e => by injection e with e; exact HGM.out.2 e)
              replace M := M.grown (grown_set _ gx 2 (.slice A2 vs.length c2)) (fun e => by injection e with e; exact HGM.out.1 e) (fun e => by injection e with e; exact HGM.out.2 e)
              replace M := M.grown (grown_set _ gx 3 (.int .u64 lk)) (fun e => by injection e with e; exact HGM.out.1 e) (fun e => by injection e with e; exact HGM.out.2 e)
              have HO := hide (And.intro o1 o2)
              clear o1 o2
              have o1 := own_setT (own_setT (own_setT (own_setT (show w4.ownsRow _ _ _ _ _ _ from HO.out.1) bn (by decide) 0 (.bool true)) (bn.set_ 0 (.bool true)) (by decide) 1 (.slice A1 ks.length c1)) ((bn.set_ 0 (.bool true)).set_ 1 (.slice A1 ks.length c1)) (by decide) 2 (.slice A2 vs.length c2)) (((bn.set_ 0 (.bool true)).set_ 1 (.slice A1 ks.length c1)).set_ 2 (.slice A2 vs.length c2)) (by decide) 3 (.int .u64 lk)
              have o2 := own_setT (own_setT (own_setT (own_setT (show w4.ownsRow _ _ _ _ _ _ from HO.out.2) bn (by decide) 0 (.bool true)) (bn.set_ 0 (.bool true)) (by decide) 1 (.slice A1 ks.length c1)) ((bn.set_ 0 (.bool true)).set_ 1 (.slice A1 ks.length c1)) (by decide) 2 (.slice A2 vs.length c2)) (((bn.set_ 0 (.bool true)).set_ 1 (.slice A1 ks.length c1)).set_ 2 (.slice A2 vs.length c2)) (by decide) 3 (.int .u64 lk)
              clear HO
              replace B0 := below_setN (g := gx) B0 HGX.out (.bool true) (.slice A1 ks.length c1) (.slice A2 vs.length c2) (.int .u64 lk)
              replace bn := bn.setN (.bool true) (.slice A1 ks.length c1) (.slice A2 vs.length c2) (.int .u64 lk)
              generalize (((w4.setCell ⟨gx, 0, none⟩ (.bool true)).setCell ⟨gx, 1, none⟩ (.slice A1 ks.length c1)).setCell ⟨gx, 2, none⟩ (.slice A2 vs.length c2)).setCell ⟨gx, 3, none⟩ (.int .u64 lk) = wz at *
              refine hK.out _ _ (by exact mem5 M) (fun hHeld => ?_)
              clear hK K
              try simp only [Act.put, List.setIfInBounds_toArray, List.set_cons_zero, List.set_cons_succ]
              refine' wpAnyZ_takeA (i := 13) (v := ?_) (opAt rfl) (by kernel_rfl) (by kernel_rfl) (by kernel_rfl) (by kernel_rfl) (fun _ _ _ h => h) (by assumption) (by rfl) (fun w hSw => ?_) ?_
              rotate_left
              · (try dsimp only at hSw); go_simp; (try with_reducible rfl)
              try simp only [Act.put, List.setIfInBounds_toArray, List.set_cons_zero, List.set_cons_succ]
              refine wpAnyZ_done (by kernel_rfl) ?_ _
              go_wp2_with fail
              go_meet
              exact ⟨gx, _, _, rfl, rfl, bn, o1, o2, M, B0⟩
            exact AllReadyZ.nil
          exact AllReadyZ.nil
        exact AllReadyZ.nil
      exact AllReadyZ.nil
    refine AllReadyZ.cons (opAt rfl) (fun K hK => ?_) ?_
    · skip
      go_simp
      have bn := Blk.new w1d 94 #[.bool false, .slice none 0 0, .slice none 0 0, .int .u64 0]
      have HGX := hide (show w.heap.size ≤ w1d.heap.size from B0.size)
      have HGM := hide (show gm ≠ w1d.heap.size ∧ gw ≠ w1d.heap.size from ⟨Nat.ne_of_lt (Blk.lt M.1), Nat.ne_of_lt (Blk.lt M.2.1)⟩)
      replace M := M.below ((Below.refl w1d.heap.size w1d).alloc (Nat.le_refl _) (.cells #[.bool false, .slice none 0 0, .slice none 0 0, .int .u64 0] 94))
      replace B0 := B0.alloc B0.size (.cells #[.bool false, .slice none 0 0, .slice none 0 0, .int .u64 0] 94)
      generalize w1d.alloc (.cells #[.bool false, .slice none 0 0, .slice none 0 0, .int .u64 0] 94) = w2 at *
      generalize w1d.heap.size = gx at *
      refine hK.out _ _ (by exact mem5 M) (fun hHeld => ?_)
      clear hK K
      try simp only [Act.put, List.setIfInBounds_toArray, List.set_cons_zero, List.set_cons_succ]
      refine wpAnyZ_ready (rs := [2]) (by kernel_rfl) (by simp) ?_
      refine AllReadyZ.cons (opAt rfl) (fun K hK => ?_) ?_
      · skip
        go_simp
        refine (AN.out _ M).mono ?_
        rintro e w3 ⟨⟨v, rfl, hnd⟩, hb1⟩
        obtain ⟨kv, uv, rfl, o1, o2⟩ := hnd
        obtain ⟨A1, c1, rfl, _⟩ := own_reads o1
        obtain ⟨A2, c2, rfl, _⟩ := own_reads o2
        replace M := M.below hb1
        replace bn := bn.below hb1 bn.lt
        have o1 := own_mono o1 B0.size
        have o2 := own_mono o2 B0.size
        replace B0 := B0.trans (hb1.mono B0.size)
        clear hb1
        refine hK.out _ _ (by exact mem5 M) (fun hHeld => ?_)
        clear hK K
        try simp only [Act.put, List.setIfInBounds_toArray, List.set_cons_zero, List.set_cons_succ]
        refine wpAnyZ_ready (rs := [9]) (by kernel_rfl) (by simp) ?_
        refine AllReadyZ.cons (opAt rfl) (fun K hK => ?_) ?_
        · skip
          go_simp
          refine (CV.out _).mono ?_
          rintro e w4 ⟨rfl, hb1⟩
          replace M := M.below hb1
          replace bn := bn.below hb1 bn.lt
          replace o1 := own_below o1 hb1
          replace o2 := own_below o2 hb1
          replace B0 := B0.trans (hb1.mono B0.size)
          clear hb1
          refine hK.out _ _ (by exact mem5 M) (fun hHeld => ?_)
          clear hK K
          try simp only [Act.put, List.setIfInBounds_toArray, List.set_cons_zero, List.set_cons_succ]
          refine wpAnyZ_ready (rs := [10]) (by kernel_rfl) (by simp) ?_
          refine AllReadyZ.cons (opAt rfl) (fun K hK => ?_) ?_
          · skip
            go_simp
            refine (WD.out _ M).mono ?_
            rintro e w5 ⟨rfl, rfl⟩
            refine hK.out _ _ (by exact mem5 M) (fun hHeld => ?_)
            clear hK K
            try simp only [Act.put, List.setIfInBounds_toArray, List.set_cons_zero, List.set_cons_succ]
            refine wpAnyZ_ready (rs := [12]) (by kernel_rfl) (by simp) ?_
            refine AllReadyZ.cons (opAt rfl) (fun K hK => ?_) ?_
            · skip
              have zn := fun i => bn.frozen i
              have mn := fun i => bn.cell i
              go_simp
              clear zn mn
              replace M := M.grown (grown_set _ gx 0 (.bool true)) (fun e => by injection e with e; exact HGM.out.1 e) (fun e => by injection e with e; exact HGM.out.2 e)
              replace M := M.grown (grown_set _ gx 1 (.slice A1 ks.length c1)) (fun e => by injection e with e; exact HGM.out.1 e) (fun e => by injection e with e; exact HGM.out.2 e)
              replace M := M.grown (grown_set _ gx 2 (.slice A2 vs.length c2)) (fun e => by injection e with e; exact HGM.out.1 e) (fun e => by injection e with e; exact HGM.out.2 e)
              replace M := M.grown (grown_set _ gx 3 (.int .u64 lk)) (fun e => by injection e with e; exact HGM.out.1 e) (fun e => by injection e with e; exact HGM.out.2 e)
              have HO := hide (And.intro o1 o2)
              clear o1 o2
              have o1 := own_setT (own_setT (own_setT (own_setT (show w4.ownsRow _ _ _ _ _ _ from HO.out.1) bn (by decide) 0 (.bool true)) (bn.set_ 0 (.bool true)) (by decide) 1 (.slice A1 ks.length c1)) ((bn.set_ 0 (.bool true)).set_ 1 (.slice A1 ks.length c1)) (by decide) 2 (.slice A2 vs.length c2)) (((bn.set_ 0 (.bool true)).set_ 1 (.slice A1 ks.length c1)).set_ 2 (.slice A2 vs.length c2)) (by decide) 3 (.int .u64 lk)
              have o2 := own_setT (own_setT (own_setT (own_setT (show w4.ownsRow _ _ _ _ _ _ from HO.out.2) bn (by decide) 0 (.bool true)) (bn.set_ 0 (.bool true)) (by decide) 1 (.slice A1 ks.length c1)) ((bn.set_ 0 (.bool true)).set_ 1 (.slice A1 ks.length c1)) (by decide) 2 (.slice A2 vs.length c2)) (((bn.set_ 0 (.bool true)).set_ 1 (.slice A1 ks.length c1)).set_ 2 (.slice A2 vs.length c2)) (by decide) 3 (.int .u64 lk)
              clear HO
              replace B0 := below_setN (g := gx) B0 HGX.out (.bool true) (.slice A1 ks.length c1) (.slice A2 vs.length c2) (.int .u64 lk)
              replace bn := bn.setN (.bool true) (.slice A1 ks.length c1) (.slice A2 vs.length c2) (.int .u64 lk)
              generalize (((w4.setCell ⟨gx, 0, none⟩ (.bool true)).setCell ⟨gx, 1, none⟩ (.slice A1 ks.length c1)).setCell ⟨gx, 2, none⟩ (.slice A2 vs.length c2)).setCell ⟨gx, 3, none⟩ (.int .u64 lk) = wz at *
              refine hK.out _ _ (by exact mem5 M) (fun hHeld => ?_)
              clear hK K
              try simp only [Act.put, List.setIfInBounds_toArray, List.set_cons_zero, List.set_cons_succ]
              refine' wpAnyZ_takeA (i := 13) (v := ?_) (opAt rfl) (by kernel_rfl) (by kernel_rfl) (by kernel_rfl) (by kernel_rfl) (fun _ _ _ h => h) (by assumption) (by rfl) (fun w hSw => ?_) ?_
              rotate_left
              · (try dsimp only at hSw); go_simp; (try with_reducible rfl)
              try simp only [Act.put, List.setIfInBounds_toArray, List.set_cons_zero, List.set_cons_succ]
              refine wpAnyZ_done (by kernel_rfl) ?_ _
              go_wp2_with fail
              go_meet
              exact ⟨gx, _, _, rfl, rfl, bn, o1, o2, M, B0⟩
            exact AllReadyZ.nil
          exact AllReadyZ.nil
        exact AllReadyZ.nil
      exact AllReadyZ.nil
    exact AllReadyZ.nil
  case rest =>
    clear M B0
    obtain ⟨bn, kv, uv, rfl, rfl, bn0, o1, o2, M, B0⟩ := hcut
    go_wp2_with fail
    refine (HHC.out _ M).mono ?_
    rintro e w3 ⟨rfl, hb1⟩
    replace B0 := B0.trans (hb1.mono B0.size)
    replace o1 := own_below o1 hb1
    replace o2 := own_below o2 hb1
    replace bn0 := bn0.below hb1 bn0.lt
    clear hb1 M
    go_wp2_with fail
    refine (HT.out _).mono ?_
    rintro e w4 ⟨rfl, hb1⟩
    replace B0 := B0.trans (hb1.mono B0.size)
    replace o1 := own_below o1 hb1
    replace o2 := own_below o2 hb1
    replace bn0 := bn0.below hb1 bn0.lt
    clear hb1
    obtain ⟨A1, c1, rfl, R1⟩ := own_reads o1
    obtain ⟨A2, c2, rfl, R2⟩ := own_reads o2
    have HBN := hide bn0
    have HBL := hide bn0.lt
    have HR1 := hide R1
    have HR2 := hide R2
    have HB0 := hide B0
    clear bn0 o1 o2 R1 R2 B0
    have bs := Blk.new w4 9 #[.string (htx hv), .string ⟨#[108, 101, 97, 102]⟩]
    have Bq := (Below.refl w4.heap.size w4).alloc (Nat.le_refl _) (.cells #[.string (htx hv), .string ⟨#[108, 101, 97, 102]⟩] 9)
    generalize htx hv = th at *
    go_upto_if 38 with fail
    generalize hg4 : w4.heap.size = g4 at *
    have HG4 := hide hg4
    clear hg4
    go_cut [] from 38 to 40 (fun wx => Blk wx g4 9 #[.string s0, .string ⟨#[108, 101, 97, 102]⟩] ∧ Below g4 w4 wx)
    case first =>
      cases hq : (k == 0)
      case true =>
        have h0 : k = 0 := by simpa using hq
        clear hq
        have hs9 : s0 = anchorB := HS0.out.trans (if_pos h0)
        have HS9 := hide hs9
        clear h0 hs9
        generalize w4.alloc (.cells #[.string th, .string ⟨#[108, 101, 97, 102]⟩] 9) = wk at *
        have zb := fun i => bs.frozen i
        have mb := fun i => bs.cell i
        go_wp2_with fail
        go_meet
        exact ⟨by rw [HS9.out]; exact bs.set_ 0 (.string ⟨#[97, 110, 99, 104, 111, 114]⟩), Bq.setCell (p := ⟨g4, 0, none⟩) (Nat.le_refl _) _⟩
      case false =>
        have h0 : ¬ k = 0 := by simpa using hq
        clear hq
        have hs9 : s0 = th := HS0.out.trans (if_neg h0)
        have HS9 := hide hs9
        clear h0 hs9
        generalize w4.alloc (.cells #[.string th, .string ⟨#[108, 101, 97, 102]⟩] 9) = wk at *
        go_wp2_with fail
        go_meet
        exact ⟨by rw [HS9.out]; exact bs, Bq⟩
    case rest =>
      clear bs Bq
      obtain ⟨bs, Bq⟩ := hcut
      have bnx := HBN.out.below Bq HBL.out
      have mn := fun i => bnx.cell i
      have zb := fun i => bs.frozen i
      have mb := fun i => bs.cell i
      go_wp2_with fail
      refine (VL.out _).mono ?_
      rintro e w' ⟨rfl, rfl⟩
      clear mn bnx zb mb
      replace bs := bs.set_ 1 (.string ⟨#[105, 110, 110, 101, 114]⟩)
      replace Bq := Bq.setCell (p := ⟨g4, 1, none⟩) (Nat.le_refl _) (.string ⟨#[105, 110, 110, 101, 114]⟩)
      generalize wc.setCell ⟨g4, 1, none⟩ (.string ⟨#[105, 110, 110, 101, 114]⟩) = wm at *
      have ho : wm.ownsRow g4 9 1 (.slice (some ⟨g4, 0, none⟩) 2 2) 2 (strs [s0, innerB]) := own_of_blk bs (Nat.le_refl _) rfl (by omega)
      clear bs
      go_upto_if 46 with fail
      go_cut [7] from 46 to 49 (fun s7 wx => NdW g4 (wA s0 innerB lo) w4 s7 wx)
      case first =>
        cases lo
        · go_wp2_with fail
          go_meet
          exact ⟨_, 2, _, rfl, rfl, ho, Bq⟩
        · skip
          have hr6 := Reads.new wm (strs [⟨#[108, 111, 99, 107, 101, 100]⟩]) 9 1 1 rfl
          replace ho := World.ownsRow.alloc ho (.cells #[.string ⟨#[108, 111, 99, 107, 101, 100]⟩] 9)
          have hsz : g4 ≤ wm.heap.size := by have h1 := Bq.size; have h2 := HG4.out; omega
          replace Bq := Bq.alloc hsz (.cells #[.string ⟨#[108, 111, 99, 107, 101, 100]⟩] 9)
          have bnx := HBN.out.below Bq HBL.out
          have mn := fun i => bnx.cell i
          go_wp2_with (at_builtin; refine wpList_append_any _ rfl (.tmp 47) (.tmp 48) _ rfl g4 9 i0 _ 1 16 Tryd.underlying44 hi0 hz0 hs0 hb0 rfl (by omega) _ (2) _ rfl ho (wm.heap.size + 1) (some ⟨wm.heap.size, 0, none⟩) 1 1 (strs [⟨#[108, 111, 99, 107, 101, 100]⟩]) rfl hr6 (strs_one _) (by unfold maxLen; omega) (by omega) (by simp only [World.size_alloc]; omega) ?_; intro v3 w7 ho3 hg3 hat3; replace Bq := below_appended Bq ho hg3 (Nat.le_refl _) (by simp only [World.size_alloc]; omega); obtain ⟨A3, c3, rfl, _⟩ := own_reads ho3; rw [← strs_app] at ho3; clear ho hg3 hat3 hr6 hsz mn bnx; have ho := ho3; clear ho3; have bnx := HBN.out.below Bq HBL.out; have mn := fun i => bnx.cell i)
          go_meet
          exact ⟨_, 2 + 1, _, rfl, rfl, ho, Bq⟩
      case rest =>
        clear ho Bq
        obtain ⟨A, n, c, rfl, hn, ho, Bq⟩ := hcut
        go_wp2_with fail
        refine (VD.out _).mono ?_
        rintro e w' ⟨rfl, rfl⟩
        have hn3 : n ≤ 3 := by rw [← hn]; cases lo <;> simp [wA]
        have HNE := hide hn
        clear hn
        go_upto_if 51 with fail
        go_cut [7] from 51 to 54 (fun s7 wx => NdW g4 (wB s0 innerB lo de) w4 s7 wx)
        case first =>
          cases de
          · go_wp2_with fail
            go_meet
            exact ⟨_, n, _, rfl, by rw [← HNE.out]; simp [wB], by rw [show wB s0 innerB lo false = wA s0 innerB lo by simp [wB]]; exact ho, Bq⟩
          · skip
            have hr6 := Reads.new wc (strs [⟨#[100, 101, 97, 100]⟩]) 9 1 1 rfl
            replace ho := World.ownsRow.alloc ho (.cells #[.string ⟨#[100, 101, 97, 100]⟩] 9)
            have hsz : g4 ≤ wc.heap.size := by have h1 := Bq.size; have h2 := HG4.out; omega
            replace Bq := Bq.alloc hsz (.cells #[.string ⟨#[100, 101, 97, 100]⟩] 9)
            have bnx := HBN.out.below Bq HBL.out
            have mn := fun i => bnx.cell i
            go_wp2_with (at_builtin; refine wpList_append_any _ rfl (.tmp 52) (.tmp 53) _ rfl g4 9 i0 _ 1 16 Tryd.underlying44 hi0 hz0 hs0 hb0 rfl (by omega) _ (n) _ rfl ho (wc.heap.size + 1) (some ⟨wc.heap.size, 0, none⟩) 1 1 (strs [⟨#[100, 101, 97, 100]⟩]) rfl hr6 (strs_one _) (by unfold maxLen; omega) (by omega) (by simp only [World.size_alloc]; omega) ?_; intro v3 w7 ho3 hg3 hat3; replace Bq := below_appended Bq ho hg3 (Nat.le_refl _) (by simp only [World.size_alloc]; omega); obtain ⟨A3, c3, rfl, _⟩ := own_reads ho3; rw [← strs_app] at ho3; clear ho hg3 hat3 hr6 hsz mn bnx; have ho := ho3; clear ho3; have bnx := HBN.out.below Bq HBL.out; have mn := fun i => bnx.cell i)
            go_meet
            exact ⟨_, n + 1, _, rfl, by rw [← HNE.out]; simp [wB], ho, Bq⟩
        case rest =>
          clear ho Bq HNE
          obtain ⟨A, n, c, rfl, hn, ho, Bq⟩ := hcut
          have HNL := hide (show n ≤ 4 by have := wB_len s0 innerB lo de; omega)
          have HNP := hide (show 0 < n by have := List.length_pos_iff.2 (wB_ne s0 innerB lo de); omega)
          clear hn
          have HEL := hide (show nodeL s0 innerB lo de true ks vs lk = wC (wB s0 innerB lo de) true ks vs vs.length ++ (if true = false ∧ lk ≠ 0 then [nextB, htx lk] else []) from rfl)
          rw [HEL.out] at E
          generalize wB s0 innerB lo de = W0 at *
          clear HEL
          have bnx := HBN.out.below Bq HBL.out
          have mn := fun i => bnx.cell i
          go_wp2_with fail
          clear mn bnx
          obtain ⟨N, hN⟩ : ∃ N, vs.length = N := ⟨_, rfl⟩
          rw [hN]
          have HN := hide hN
          clear hN
          go_loopw [7, 58] (NdLp g4 N W0 true ks vs w4) (fun _ v _ => N - (intOf v).toNat)
          case atStart => exact ⟨0, n, A, c, rfl, by omega, rfl, HNP.out, HNL.out, by rw [wC_zero]; exact ho, Bq⟩
          case round =>
            clear ho Bq
            obtain ⟨j, n1, A3, c3, rfl, hj, rfl, hn1, hn2, ho, Bq⟩ := hrel
            have HN64 := HVN.out
            rw [HN.out] at HN64
            have bnx := HBN.out.below Bq HBL.out
            have mn := fun i => bnx.cell i
            by_cases hlt : j < N
            · have hltz : (j : Int) < (N : Int) := by omega
              have HVB := (HR2.out.below Bq)
              rw [HN.out] at HVB
              obtain ⟨a2, hA2, hl2, z2⟩ := HVB.word hlt
              subst hA2
              have HW2 := HV64.out _ (List.getElem_mem hl2)
              have hg2 : vs.getD j 0 = vs[j] := by simp [List.getD, hl2]
              generalize vs[j] = vj at *
              clear HVB hl2
              have HTV := hide (fun w2 => htext_any vj w2 HW2)
              by_cases hj0 : j = 0
              · have hj1 : ¬ 0 < (j : Int) := by omega
                have HEW := hide (show wC W0 true ks vs (j + 1) = wC W0 true ks vs j ++ [htx vj] by rw [wC_succ]; unfold entW; rw [if_pos rfl, if_pos hj0, hg2])
                clear hg2 HW2 hj0
                generalize htx vj = tv at *
                go_wp2_with fail
                refine (HTV.out _).mono ?_
                rintro e w7 ⟨rfl, hb1⟩
                replace ho := own_below ho hb1
                replace Bq := Bq.trans (hb1.mono (by have h1 := Bq.size; have h2 := HG4.out; omega))
                clear hb1 mn bnx z2
                have hr6 := Reads.new w7 (strs [tv]) 9 1 1 rfl
                replace ho := World.ownsRow.alloc ho (.cells #[.string tv] 9)
                have hsz : g4 ≤ w7.heap.size := by have h1 := Bq.size; have h2 := HG4.out; omega
                replace Bq := Bq.alloc hsz (.cells #[.string tv] 9)
                have bnx := HBN.out.below Bq HBL.out
                have mn := fun i => bnx.cell i
                go_wp2_with (at_builtin; refine wpList_append_any _ rfl (.tmp 63) (.tmp 66) _ rfl g4 9 i0 _ 1 16 Tryd.underlying44 hi0 hz0 hs0 hb0 rfl (by omega) _ (n1) _ rfl ho (w7.heap.size + 1) (some ⟨w7.heap.size, 0, none⟩) 1 1 (strs [tv]) rfl hr6 (strs_one _) (by unfold maxLen; omega) (by omega) (by simp only [World.size_alloc]; omega) ?_; intro v3 w8 ho3 hg3 hat3; replace Bq := below_appended Bq ho hg3 (Nat.le_refl _) (by simp only [World.size_alloc]; omega); obtain ⟨A3, c3, rfl, _⟩ := own_reads ho3; rw [← strs_app] at ho3; clear ho hg3 hat3 hr6 hsz mn bnx; have ho := ho3; clear ho3; have bnx := HBN.out.below Bq HBL.out; have mn := fun i => bnx.cell i)
                go_roundw
                case rel => exact ⟨j + 1, n1 + 1, A3, c3, by go_num, by omega, rfl, by omega, by omega, by rw [HEW.out]; exact ho, Bq⟩
                case measure => simp [intOf]; omega
              · obtain ⟨i, hji⟩ : ∃ i : Nat, j = i + 1 := ⟨j - 1, by omega⟩
                have hi1 : i < N - 1 := by omega
                have HKB := (HR1.out.below Bq)
                rw [HKN.out, HN.out] at HKB
                obtain ⟨a1, hA1, hl1, z1⟩ := HKB.word hi1
                subst hA1
                have HW1 := HK64.out _ (List.getElem_mem hl1)
                have hg1 : ks.getD i 0 = ks[i] := by simp [List.getD, hl1]
                generalize ks[i] = ki at *
                clear HKB hl1
                have DE := hide (fun w2 => texti_any ki w2 HW1)
                have HEW := hide (show wC W0 true ks vs (j + 1) = wC W0 true ks vs j ++ [numI ki, htx vj] by rw [wC_succ]; unfold entW; rw [if_pos rfl, if_neg hj0, hg2, show j - 1 = i by omega, hg1])
                clear hg1 hg2 HW1 HW2
                generalize htx vj = tv at *
                generalize numI ki = nk at *
                have hj1 : 0 < (j : Int) := by omega
                have e1 : wrap64 ((j : Int) - 1) = (i : Int) := by unfold wrap64; omega
                have e2 : (j : Int) - 1 = (i : Int) := by omega
                have hiz : (i : Int) < (ks.length : Int) := by have h1 := HKN.out; have h2 := HN.out; omega
                have hiz2 : i < ks.length := by omega
                have HJI := hide hji
                clear hji
                go_wp2_with fail
                refine (DE.out _).mono ?_
                rintro e w7 ⟨rfl, hb1⟩
                replace ho := own_below ho hb1
                replace Bq := Bq.trans (hb1.mono (by have h1 := Bq.size; have h2 := HG4.out; omega))
                clear hb1 mn bnx z1 z2
                go_wp2_with fail
                refine (HTV.out _).mono ?_
                rintro e w8 ⟨rfl, hb1⟩
                replace ho := own_below ho hb1
                replace Bq := Bq.trans (hb1.mono (by have h1 := Bq.size; have h2 := HG4.out; omega))
                clear hb1
                have hr6 := Reads.new w8 (strs [nk, tv]) 9 2 1 rfl
                replace ho := World.ownsRow.alloc ho (.cells #[.string nk, .string tv] 9)
                have hsz : g4 ≤ w8.heap.size := by have h1 := Bq.size; have h2 := HG4.out; omega
                replace Bq := Bq.alloc hsz (.cells #[.string nk, .string tv] 9)
                have bnx := HBN.out.below Bq HBL.out
                have mn := fun i => bnx.cell i
                go_wp2_with (at_builtin; refine wpList_append_any _ rfl (.tmp 85) (.tmp 95) _ rfl g4 9 i0 _ 1 16 Tryd.underlying44 hi0 hz0 hs0 hb0 rfl (by omega) _ (n1) _ rfl ho (w8.heap.size + 1) (some ⟨w8.heap.size, 0, none⟩) 2 2 (strs [nk, tv]) rfl hr6 (strs_one _) (by unfold maxLen; omega) (by omega) (by simp only [World.size_alloc]; omega) ?_; intro v3 w9 ho3 hg3 hat3; replace Bq := below_appended Bq ho hg3 (Nat.le_refl _) (by simp only [World.size_alloc]; omega); obtain ⟨A3, c3, rfl, _⟩ := own_reads ho3; rw [← strs_app] at ho3; clear ho hg3 hat3 hr6 hsz mn bnx; have ho := ho3; clear ho3; have bnx := HBN.out.below Bq HBL.out; have mn := fun i => bnx.cell i)
                go_roundw
                case rel => exact ⟨j + 1, n1 + 2, A3, c3, by go_num, by omega, rfl, by omega, by omega, by rw [HEW.out]; exact ho, Bq⟩
                case measure => simp [intOf]; omega
            · obtain rfl : j = N := by omega
              have hE : R = joinT (wC W0 true ks vs j) := by rw [E.out, HN.out]; simp
              rw [hE] at HSZ
              have HE := hide hE
              have TX := hide (fun A9 c9 w2 (h : w2.ownsRow g4 9 1 (.slice A9 (n1) c9) (n1) (strs (wC W0 true ks vs j))) => dtext_any g4 (n1) c9 A9 _ w2 h (by omega) (by have := HSZ.out; omega) (by omega))
              clear hE E
              generalize joinT (wC W0 true ks vs j) = Q at *
              have TX2 := hide (TX.out _ _ _ ho)
              clear TX ho
              go_wp2_with fail
              refine (TX2.out).mono ?_
              rintro e w9 ⟨rfl, hb1⟩
              go_wp2_with fail
              go_ret
              exact ⟨by rw [HE.out]; rfl, HB0.out.trans ((Bq.trans (hb1.mono (by have h1 := Bq.size; have h2 := HG4.out; omega))).mono (by rw [← HG4.out]; exact HB0.out.size))⟩
set_option maxRecDepth 100000 in
set_option maxHeartbeats 4000000 in
theorem dnode_leaf (gm gw : Nat) (s t f l p k : Int) (ws : List Int) (w : World) (hs : 1 ≤ s ∧ s ≤ 1000) (ht : 1 ≤ t ∧ t ≤ 64) (hf : 4 ≤ f ∧ f ≤ 64) (hk : 0 ≤ k ∧ k ≤ s) (M : MemOk w gm gw s t f l p ws) (h64 : AllW64 ws) (hin : nodI ws t f k = false) :
    Calls Tryd.prog 35 #[.pointer (some ⟨gm, 0, none⟩), .int .i64 k] w fun e w' => e = .returned (.string (nodeT ws t f k)) ∧ Below w.heap.size w w' := by
  obtain ⟨i0, hi0, hz0, hs0, hb0⟩ := info_parts infoStr
  have hbd := nB_bd hs ht hf (sl := k) (by omega)
  have CV := hide (fun w2 => lver_any s t f l p k w2 hs ht hf)
  rw [atpB_6 (by omega)] at CV
  have WD := hide (fun w2 (h : MemOk w2 gm gw s t f l p ws) => word_any gm gw s t f l p (nB t f k) ws w2 h)
  have AN := hide (fun w2 M => anode_yes gm gw s t f l p k ws w2 hs ht hf hk M h64)
  have hx := wGet_w64 h64 (nB t f k)
  have VL := hide (fun w2 => vlocked_any (wGet ws (nB t f k)) w2 hx)
  have VD := hide (fun w2 => vdead_any (wGet ws (nB t f k)) w2 hx)
  have HH : ∃ hv : Int, W64 hv ∧ (∀ w2, MemOk w2 gm gw s t f l p ws → Calls Tryd.prog 59 #[.pointer (some ⟨gm, 0, none⟩), .int .i64 k] w2 fun e w' => e = .returned (.int .u64 hv) ∧ Below w2.heap.size w2 w') ∧ (k ≠ 0 → hv = hmk (vgen (wGet ws (nB t f k))) k) := by
    by_cases h0 : k = 0
    · exact ⟨0, ⟨by omega, by omega⟩, fun w2 M => ahandle_no gm gw s t f l p k ws w2 hs ht hf (by omega) M, fun h => absurd h0 h⟩
    · exact ⟨_, hmk_bound _ _, fun w2 M => ahandle_yes gm gw s t f l p k ws w2 hs ht hf (by omega) M h64, fun _ => rfl⟩
  obtain ⟨hv, hvw, HHC, HHV⟩ := HH
  replace HHC := hide HHC
  have HT := hide (fun w2 => htext_any hv w2 hvw)
  have HK64 := hide (show ∀ x ∈ nodK ws t f k, W64 x from rowL_w64 h64 _ _)
  have HV64 := hide (show ∀ x ∈ nodV ws t f k, W64 x from rowL_w64 h64 _ _)
  have HLK := hide (show W64 (nodL ws t f k) from wGet_w64 h64 _)
  have HVN := hide (show (nodV ws t f k).length ≤ 64 by
    have h1 := nodN_le (t := t) (k := k) h64 hf
    unfold nodV
    rw [rowL_len]
    omega)
  have HKN := hide (show (nodK ws t f k).length = (nodV ws t f k).length by
    unfold nodK nodV
    rw [rowL_len, rowL_len]
    unfold nodKn
    rw [hin]
    simp)
  have HSZ := hide (nodeT_size ws t f k h64 hf)
  obtain ⟨s0, hs0'⟩ : ∃ s0, s0 = (if k = 0 then anchorB else htx hv) := ⟨_, rfl⟩
  have E := hide (show nodeT ws t f k = joinT (nodeL s0 leafB (vlocked (wGet ws (nB t f k))) (vdead (wGet ws (nB t f k))) false (nodK ws t f k) (nodV ws t f k) (nodL ws t f k)) by
    unfold nodeT
    rw [hin, hs0']
    by_cases h0 : k = 0
    · rw [if_pos h0, if_pos h0]
      rfl
    · rw [if_neg h0, if_neg h0, HHV h0]
      rfl)
  have HS0 := hide hs0'
  rw [hin] at AN
  have h2 : ¬ nB t f k < 0 := by omega
  generalize nodeT ws t f k = R at *
  generalize vlocked (wGet ws (nB t f k)) = lo at *
  generalize vdead (wGet ws (nB t f k)) = de at *
  generalize wGet ws (nB t f k) = x at *
  generalize nodK ws t f k = ks at *
  generalize nodV ws t f k = vs at *
  generalize nodL ws t f k = lk at *
  generalize nB t f k = a at *
  have B0 := Below.refl w.heap.size w
  clear hs ht hf hk hbd hx h64 hin hs0' HHV hvw
  obtain ⟨m0, m1, m2, m3, m4⟩ := mem5 M
  go_enter Tryd.func35, Tryd.ntmps35
  go_wp2_with fail
  refine (CV.out _).mono ?_
  rintro e w1 ⟨rfl, hb1⟩
  replace M := M.below hb1
  replace B0 := B0.trans (hb1.mono B0.size)
  clear m0 m1 m2 m3 m4 hb1
  go_upto_region 3 with fail
  go_cut [5, 6] from 21 to 31 (fun s5 s6 wx => NdC w.heap.size gm gw s t f l p ws x false ks vs lk w s5 s6 wx)
  case first =>
    refine wp_region_heldZ [] (fun w' => w'.cell? ⟨gm, 0, none⟩ = some (.int .i64 s) ∧ w'.cell? ⟨gm, 1, none⟩ = some (.int .i64 t) ∧ w'.cell? ⟨gm, 2, none⟩ = some (.int .i64 f) ∧ w'.cell? ⟨gm, 3, none⟩ = some (.int .i64 l) ∧ w'.cell? ⟨gm, 4, none⟩ = some (.int .i64 p)) (by kernel_rfl) (by exact mem5 M) (fun hHeld => ?_)
    replace M := (show MemOk w1.drew gm gw s t f l p ws from ⟨M.1, M.2⟩)
    replace B0 := B0.drew
    generalize w1.drew = w1d at *
    refine' wpAnyZ_takeA (i := 0) (v := ?_) (opAt rfl) (by kernel_rfl) (by kernel_rfl) (by kernel_rfl) (by kernel_rfl) (fun _ _ _ h => h) (by assumption) (by rfl) (fun w hSw => ?_) ?_
    rotate_left
    · (try dsimp only at hSw); go_simp; (try with_reducible rfl)
    try simp only [Act.put, List.setIfInBounds_toArray, List.set_cons_zero, List.set_cons_succ]
    refine' wpAnyZ_takeA (i := 1) (v := ?_) (opAt rfl) (by kernel_rfl) (by kernel_rfl) (by kernel_rfl) (by kernel_rfl) (fun _ _ _ h => h) (by assumption) (by rfl) (fun w hSw => ?_) ?_
    rotate_left
    · (try dsimp only at hSw); go_simp; (try with_reducible rfl)
    try simp only [Act.put, List.setIfInBounds_toArray, List.set_cons_zero, List.set_cons_succ]
    refine' wpAnyZ_takeA (i := 3) (v := ?_) (opAt rfl) (by kernel_rfl) (by kernel_rfl) (by kernel_rfl) (by kernel_rfl) (fun _ _ _ h => h) (by assumption) (by rfl) (fun w hSw => ?_) ?_
    rotate_left
    · (try dsimp only at hSw); go_simp; (try with_reducible rfl)
    try simp only [Act.put, List.setIfInBounds_toArray, List.set_cons_zero, List.set_cons_succ]
    refine' wpAnyZ_takeA (i := 4) (v := ?_) (opAt rfl) (by kernel_rfl) (by kernel_rfl) (by kernel_rfl) (by kernel_rfl) (fun _ _ _ h => h) (by assumption) (by rfl) (fun w hSw => ?_) ?_
    rotate_left
    · (try dsimp only at hSw); go_simp; (try with_reducible rfl)
    try simp only [Act.put, List.setIfInBounds_toArray, List.set_cons_zero, List.set_cons_succ]
    refine' wpAnyZ_takeA (i := 5) (v := ?_) (opAt rfl) (by kernel_rfl) (by kernel_rfl) (by kernel_rfl) (by kernel_rfl) (fun _ _ _ h => h) (by assumption) (by rfl) (fun w hSw => ?_) ?_
    rotate_left
    · (try dsimp only at hSw); go_simp; (try with_reducible rfl)
    try simp only [Act.put, List.setIfInBounds_toArray, List.set_cons_zero, List.set_cons_succ]
    refine' wpAnyZ_takeA (i := 6) (v := ?_) (opAt rfl) (by kernel_rfl) (by kernel_rfl) (by kernel_rfl) (by kernel_rfl) (fun _ _ _ h => h) (by assumption) (by rfl) (fun w hSw => ?_) ?_
    rotate_left
    · (try dsimp only at hSw); go_simp; (try with_reducible rfl)
    try simp only [Act.put, List.setIfInBounds_toArray, List.set_cons_zero, List.set_cons_succ]
    refine' wpAnyZ_takeA (i := 7) (v := ?_) (opAt rfl) (by kernel_rfl) (by kernel_rfl) (by kernel_rfl) (by kernel_rfl) (fun _ _ _ h => h) (by assumption) (by rfl) (fun w hSw => ?_) ?_
    rotate_left
    · (try dsimp only at hSw); go_simp; (try with_reducible rfl)
    try simp only [Act.put, List.setIfInBounds_toArray, List.set_cons_zero, List.set_cons_succ]
    refine' wpAnyZ_takeA (i := 8) (v := ?_) (opAt rfl) (by kernel_rfl) (by kernel_rfl) (by kernel_rfl) (by kernel_rfl) (fun _ _ _ h => h) (by assumption) (by rfl) (fun w hSw => ?_) ?_
    rotate_left
    · (try dsimp only at hSw); go_simp; (try with_reducible rfl)
    try simp only [Act.put, List.setIfInBounds_toArray, List.set_cons_zero, List.set_cons_succ]
    refine wpAnyZ_ready (rs := [2, 11]) (by kernel_rfl) (by simp) ?_
    refine AllReadyZ.cons (opAt rfl) (fun K hK => ?_) ?_
    · skip
      go_simp
      refine (AN.out _ M).mono ?_
      rintro e w2 ⟨⟨v, rfl, hnd⟩, hb1⟩
      obtain ⟨kv, uv, rfl, o1, o2⟩ := hnd
      obtain ⟨A1, c1, rfl, _⟩ := own_reads o1
      obtain ⟨A2, c2, rfl, _⟩ := own_reads o2
      replace M := M.below hb1
      have o1 := own_mono o1 B0.size
      have o2 := own_mono o2 B0.size
      replace B0 := B0.trans (hb1.mono B0.size)
      clear hb1
      refine hK.out _ _ (by exact mem5 M) (fun hHeld => ?_)
      clear hK K
      try simp only [Act.put, List.setIfInBounds_toArray, List.set_cons_zero, List.set_cons_succ]
      refine wpAnyZ_ready (rs := [9, 11]) (by kernel_rfl) (by simp) ?_
      refine AllReadyZ.cons (opAt rfl) (fun K hK => ?_) ?_
      · skip
        go_simp
        refine (CV.out _).mono ?_
        rintro e w3 ⟨rfl, hb1⟩
        replace M := M.below hb1
        replace o1 := own_below o1 hb1
        replace o2 := own_below o2 hb1
        replace B0 := B0.trans (hb1.mono B0.size)
        clear hb1
        refine hK.out _ _ (by exact mem5 M) (fun hHeld => ?_)
        clear hK K
        try simp only [Act.put, List.setIfInBounds_toArray, List.set_cons_zero, List.set_cons_succ]
        refine wpAnyZ_ready (rs := [10, 11]) (by kernel_rfl) (by simp) ?_
        refine AllReadyZ.cons (opAt rfl) (fun K hK => ?_) ?_
        · skip
          go_simp
          refine (WD.out _ M).mono ?_
          rintro e w4 ⟨rfl, rfl⟩
          refine hK.out _ _ (by exact mem5 M) (fun hHeld => ?_)
          clear hK K
          try simp only [Act.put, List.setIfInBounds_toArray, List.set_cons_zero, List.set_cons_succ]
          refine wpAnyZ_ready (rs := [11]) (by kernel_rfl) (by simp) ?_
          refine AllReadyZ.cons (opAt rfl) (fun K hK => ?_) ?_
          · skip
            go_simp
            have bn := Blk.new w3 94 #[.bool false, .slice none 0 0, .slice none 0 0, .int .u64 0]
            have HGX := hide (show w.heap.size ≤ w3.heap.size from B0.size)
            have HGM := hide (show gm ≠ w3.heap.size ∧ gw ≠ w3.heap.size from ⟨Nat.ne_of_lt (Blk.lt M.1), Nat.ne_of_lt (Blk.lt M.2.1)⟩)
            replace M := M.below ((Below.refl w3.heap.size w3).alloc (Nat.le_refl _) (.cells #[.bool false, .slice none 0 0, .slice none 0 0, .int .u64 0] 94))
            replace o1 := World.ownsRow.alloc o1 (.cells #[.bool false, .slice none 0 0, .slice none 0 0, .int .u64 0] 94)
            replace o2 := World.ownsRow.alloc o2 (.cells #[.bool false, .slice none 0 0, .slice none 0 0, .int .u64 0] 94)
            replace B0 := B0.alloc B0.size (.cells #[.bool false, .slice none 0 0, .slice none 0 0, .int .u64 0] 94)
            generalize w3.alloc (.cells #[.bool false, .slice none 0 0, .slice none 0 0, .int .u64 0] 94) = w5 at *
            generalize w3.heap.size = gx at *
            refine hK.out _ _ (by exact mem5 M) (fun hHeld => ?_)
            clear hK K
            try simp only [Act.put, List.setIfInBounds_toArray, List.set_cons_zero, List.set_cons_succ]
            refine wpAnyZ_ready (rs := [12]) (by kernel_rfl) (by simp) ?_
            refine AllReadyZ.cons (opAt rfl) (fun K hK => ?_) ?_
            · skip
              have zn := fun i => bn.frozen i
              have mn := fun i => bn.cell i
              go_simp
              clear zn mn
              replace M := M.grown (grown_set _ gx 0 (.bool false)) (fun e => by injection e with e; exact HGM.out.1 e) (fun e => by injection e with e; exact HGM.out.2 e)
              replace M := M.grown (grown_set _ gx 1 (.slice A1 ks.length c1)) (fun e => by injection e with e; exact HGM.out.1 e) (fun e => by injection e with e; exact HGM.out.2 e)
              replace M := M.grown (grown_set _ gx 2 (.slice A2 vs.length c2)) (fun e => by injection e with e; exact HGM.out.1 e) (fun e => by injection e with e; exact HGM.out.2 e)
              replace M := M.grown (grown_set _ gx 3 (.int .u64 lk)) (fun e => by injection e with e; exact HGM.out.1 e) (fun e => by injection e with e; exact HGM.out.2 e)
              have HO := hide (And.intro o1 o2)
              clear o1 o2
              have o1 := own_setT (own_setT (own_setT (own_setT (show w5.ownsRow _ _ _ _ _ _ from HO.out.1) bn (by decide) 0 (.bool false)) (bn.set_ 0 (.bool false)) (by decide) 1 (.slice A1 ks.length c1)) ((bn.set_ 0 (.bool false)).set_ 1 (.slice A1 ks.length c1)) (by decide) 2 (.slice A2 vs.length c2)) (((bn.set_ 0 (.bool false)).set_ 1 (.slice A1 ks.length c1)).set_ 2 (.slice A2 vs.length c2)) (by decide) 3 (.int .u64 lk)
              have o2 := own_setT (own_setT (own_setT (own_setT (show w5.ownsRow _ _ _ _ _ _ from HO.out.2) bn (by decide) 0 (.bool false)) (bn.set_ 0 (.bool false)) (by decide) 1 (.slice A1 ks.length c1)) ((bn.set_ 0 (.bool false)).set_ 1 (.slice A1 ks.length c1)) (by decide) 2 (.slice A2 vs.length c2)) (((bn.set_ 0 (.bool false)).set_ 1 (.slice A1 ks.length c1)).set_ 2 (.slice A2 vs.length c2)) (by decide) 3 (.int .u64 lk)
              clear HO
              replace B0 := below_setN (g := gx) B0 HGX.out (.bool false) (.slice A1 ks.length c1) (.slice A2 vs.length c2) (.int .u64 lk)
              replace bn := bn.setN (.bool false) (.slice A1 ks.length c1) (.slice A2 vs.length c2) (.int .u64 lk)
              generalize (((w5.setCell ⟨gx, 0, none⟩ (.bool false)).setCell ⟨gx, 1, none⟩ (.slice A1 ks.length c1)).setCell ⟨gx, 2, none⟩ (.slice A2 vs.length c2)).setCell ⟨gx, 3, none⟩ (.int .u64 lk) = wz at *
              refine hK.out _ _ (by exact mem5 M) (fun hHeld => ?_)
              clear hK K
              try simp only [Act.put, List.setIfInBounds_toArray, List.set_cons_zero, List.set_cons_succ]
              refine' wpAnyZ_takeA (i := 13) (v := ?_) (opAt rfl) (by kernel_rfl) (by kernel_rfl) (by kernel_rfl) (by kernel_rfl) (fun _ _ _ h => h) (by assumption) (by rfl) (fun w hSw => ?_) ?_
              rotate_left
              · (try dsimp only at hSw); go_simp; (try with_reducible rfl)
              try simp only [Act.put, List.setIfInBounds_toArray, List.set_cons_zero, List.set_cons_succ]
              refine wpAnyZ_done (by kernel_rfl) ?_ _
              go_wp2_with fail
              go_meet
              exact ⟨gx, _, _, rfl, rfl, bn, o1, o2, M, B0⟩
            exact AllReadyZ.nil
          exact AllReadyZ.nil
        refine AllReadyZ.cons (opAt rfl) (fun K hK => ?_) ?_
        · skip
          go_simp
          have bn := Blk.new w3 94 #[.bool false, .slice none 0 0, .slice none 0 0, .int .u64 0]
          have HGX := hide (show w.heap.size ≤ w3.heap.size from B0.size)
          have HGM := hide (show gm ≠ w3.heap.size ∧ gw ≠ w3.heap.size from ⟨Nat.ne_of_lt (Blk.lt M.1), Nat.ne_of_lt (Blk.lt M.2.1)⟩)
          replace M := M.below ((Below.refl w3.heap.size w3).alloc (Nat.le_refl _) (.cells #[.bool false, .slice none 0 0, .slice none 0 0, .int .u64 0] 94))
          replace o1 := World.ownsRow.alloc o1 (.cells #[.bool false, .slice none 0 0, .slice none 0 0, .int .u64 0] 94)
          replace o2 := World.ownsRow.alloc o2 (.cells #[.bool false, .slice none 0 0, .slice none 0 0, .int .u64 0] 94)
          replace B0 := B0.alloc B0.size (.cells #[.bool false, .slice none 0 0, .slice none 0 0, .int .u64 0] 94)
          generalize w3.alloc (.cells #[.bool false, .slice none 0 0, .slice none 0 0, .int .u64 0] 94) = w4 at *
          generalize w3.heap.size = gx at *
          refine hK.out _ _ (by exact mem5 M) (fun hHeld => ?_)
          clear hK K
          try simp only [Act.put, List.setIfInBounds_toArray, List.set_cons_zero, List.set_cons_succ]
          refine wpAnyZ_ready (rs := [10]) (by kernel_rfl) (by simp) ?_
          refine AllReadyZ.cons (opAt rfl) (fun K hK => ?_) ?_
          · skip
            go_simp
            refine (WD.out _ M).mono ?_
            rintro e w5 ⟨rfl, rfl⟩
            refine hK.out _ _ (by exact mem5 M) (fun hHeld => ?_)
            clear hK K
            try simp only [Act.put, List.setIfInBounds_toArray, List.set_cons_zero, List.set_cons_succ]
            refine wpAnyZ_ready (rs := [12]) (by kernel_rfl) (by simp) ?_
            refine AllReadyZ.cons (opAt rfl) (fun K hK => ?_) ?_
            · skip
              have zn := fun i => bn.frozen i
              have mn := fun i => bn.cell i
              go_simp
              clear zn mn
              replace M := M.grown (grown_set _ gx 0 (.bool false)) (fun e => by injection e with e; exact HGM.out.1 e) (fun e => by injection e with e; exact HGM.out.2 e)
              replace M := M.grown (grown_set _ gx 1 (.slice A1 ks.length c1)) (fun e => by injection e with e; exact HGM.out.1 e) (fun e => by injection e with e; exact HGM.out.2 e)
              replace M := M.grown (grown_set _ gx 2 (.slice A2 vs.length c2)) (fun e => by injection e with e; exact HGM.out.1 e) (fun e => by injection e with e; exact HGM.out.2 e)
              replace M := M.grown (grown_set _ gx 3 (.int .u64 lk)) (fun e => by injection e with e; exact HGM.out.1 e) (fun e => by injection e with e; exact HGM.out.2 e)
              have HO := hide (And.intro o1 o2)
              clear o1 o2
              have o1 := own_setT (own_setT (own_setT (own_setT (show w4.ownsRow _ _ _ _ _ _ from HO.out.1) bn (by decide) 0 (.bool false)) (bn.set_ 0 (.bool false)) (by decide) 1 (.slice A1 ks.length c1)) ((bn.set_ 0 (.bool false)).set_ 1 (.slice A1 ks.length c1)) (by decide) 2 (.slice A2 vs.length c2)) (((bn.set_ 0 (.bool false)).set_ 1 (.slice A1 ks.length c1)).set_ 2 (.slice A2 vs.length c2)) (by decide) 3 (.int .u64 lk)
              have o2 := own_setT (own_setT (own_setT (own_setT (show w4.ownsRow _ _ _ _ _ _ from HO.out.2) bn (by decide) 0 (.bool false)) (bn.set_ 0 (.bool false)) (by decide) 1 (.slice A1 ks.length c1)) ((bn.set_ 0 (.bool false)).set_ 1 (.slice A1 ks.length c1)) (by decide) 2 (.slice A2 vs.length c2)) (((bn.set_ 0 (.bool false)).set_ 1 (.slice A1 ks.length c1)).set_ 2 (.slice A2 vs.length c2)) (by decide) 3 (.int .u64 lk)
              clear HO
              replace B0 := below_setN (g := gx) B0 HGX.out (.bool false) (.slice A1 ks.length c1) (.slice A2 vs.length c2) (.int .u64 lk)
              replace bn := bn.setN (.bool false) (.slice A1 ks.length c1) (.slice A2 vs.length c2) (.int .u64 lk)
              generalize (((w4.setCell ⟨gx, 0, none⟩ (.bool false)).setCell ⟨gx, 1, none⟩ (.slice A1 ks.length c1)).setCell ⟨gx, 2, none⟩ (.slice A2 vs.length c2)).setCell ⟨gx, 3, none⟩ (.int .u64 lk) = wz at *
              refine hK.out _ _ (by exact mem5 M) (fun hHeld => ?_)
              clear hK K
              try simp only [Act.put, List.setIfInBounds_toArray, List.set_cons_zero, List.set_cons_succ]
              refine' wpAnyZ_takeA (i := 13) (v := ?_) (opAt rfl) (by kernel_rfl) (by kernel_rfl) (by kernel_rfl) (by kernel_rfl) (fun _ _ _ h => h) (by assumption) (by rfl) (fun w hSw => ?_) ?_
              rotate_left
              · (try dsimp only at hSw); go_simp; (try with_reducible rfl)
              try simp only [Act.put, List.setIfInBounds_toArray, List.set_cons_zero, List.set_cons_succ]
              refine wpAnyZ_done (by kernel_rfl) ?_ _
              go_wp2_with fail
              go_meet
              exact ⟨gx, _, _, rfl, rfl, bn, o1, o2, M, B0⟩
            exact AllReadyZ.nil
          exact AllReadyZ.nil
        exact AllReadyZ.nil
      refine AllReadyZ.cons (opAt rfl) (fun K hK => ?_) ?_
      · skip
        go_simp
        have bn := Blk.new w2 94 #[.bool false, .slice none 0 0, .slice none 0 0, .int .u64 0]
        have HGX := hide (show w.heap.size ≤ w2.heap.size from B0.size)
        have HGM := hide (show gm ≠ w2.heap.size ∧ gw ≠ w2.heap.size from ⟨Nat.ne_of_lt (Blk.lt M.1), Nat.ne_of_lt (Blk.lt M.2.1)⟩)
        replace M := M.below ((Below.refl w2.heap.size w2).alloc (Nat.le_refl _) (.cells #[.bool false, .slice none 0 0, .slice none 0 0, .int .u64 0] 94))
        replace o1 := World.ownsRow.alloc o1 (.cells #[.bool false, .slice none 0 0, .slice none 0 0, .int .u64 0] 94)
        replace o2 := World.ownsRow.alloc o2 (.cells #[.bool false, .slice none 0 0, .slice none 0 0, .int .u64 0] 94)
        replace B0 := B0.alloc B0.size (.cells #[.bool false, .slice none 0 0, .slice none 0 0, .int .u64 0] 94)
        generalize w2.alloc (.cells #[.bool false, .slice none 0 0, .slice none 0 0, .int .u64 0] 94) = w3 at *
        generalize w2.heap.size = gx at *
        refine hK.out _ _ (by exact mem5 M) (fun hHeld => ?_)
        clear hK K
        try simp only [Act.put, List.setIfInBounds_toArray, List.set_cons_zero, List.set_cons_succ]
        refine wpAnyZ_ready (rs := [9]) (by kernel_rfl) (by simp) ?_
        refine AllReadyZ.cons (opAt rfl) (fun K hK => ?_) ?_
        · skip
          go_simp
          refine (CV.out _).mono ?_
          rintro e w4 ⟨rfl, hb1⟩
          replace M := M.below hb1
          replace bn := bn.below hb1 bn.lt
          replace o1 := own_below o1 hb1
          replace o2 := own_below o2 hb1
          replace B0 := B0.trans (hb1.mono B0.size)
          clear hb1
          refine hK.out _ _ (by exact mem5 M) (fun hHeld => ?_)
          clear hK K
          try simp only [Act.put, List.setIfInBounds_toArray, List.set_cons_zero, List.set_cons_succ]
          refine wpAnyZ_ready (rs := [10]) (by kernel_rfl) (by simp) ?_
          refine AllReadyZ.cons (opAt rfl) (fun K hK => ?_) ?_
          · skip
            go_simp
            refine (WD.out _ M).mono ?_
            rintro e w5 ⟨rfl, rfl⟩
            refine hK.out _ _ (by exact mem5 M) (fun hHeld => ?_)
            clear hK K
            try simp only [Act.put, List.setIfInBounds_toArray, List.set_cons_zero, List.set_cons_succ]
            refine wpAnyZ_ready (rs := [12]) (by kernel_rfl) (by simp) ?_
            refine AllReadyZ.cons (opAt rfl) (fun K hK => ?_) ?_
            · skip
              have zn := fun i => bn.frozen i
              have mn := fun i => bn.cell i
              go_simp
              clear zn mn
              replace M := M.grown (grown_set _ gx 0 (.bool false)) (fun e => by injection e with e; exact HGM.out.1 e) (fun e => by injection e with e; exact HGM.out.2 e)
              replace M := M.grown (grown_set _ gx 1 (.slice A1 ks.length c1)) (fun e => by injection e with e; exact HGM.out.1 e) (fun e => by injection e with e; exact HGM.out.2 e)
              replace M := M.grown (grown_set _ gx 2 (.slice A2 vs.length c2)) (fun e => by injection e with e; exact HGM.out.1 e) (fun e => by injection e with e; exact HGM.out.2 e)
              replace M := M.grown (grown_set _ gx 3 (.int .u64 lk)) (fun e => by injection e with e; exact HGM.out.1 e) (fun e => by injection e with e; exact HGM.out.2 e)
              have HO := hide (And.intro o1 o2)
              clear o1 o2
              have o1 := own_setT (own_setT (own_setT (own_setT (show w4.ownsRow _ _ _ _ _ _ from HO.out.1) bn (by decide) 0 (.bool false)) (bn.set_ 0 (.bool false)) (by decide) 1 (.slice A1 ks.length c1)) ((bn.set_ 0 (.bool false)).set_ 1 (.slice A1 ks.length c1)) (by decide) 2 (.slice A2 vs.length c2)) (((bn.set_ 0 (.bool false)).set_ 1 (.slice A1 ks.length c1)).set_ 2 (.slice A2 vs.length c2)) (by decide) 3 (.int .u64 lk)
              have o2 := own_setT (own_setT (own_setT (own_setT (show w4.ownsRow _ _ _ _ _ _ from HO.out.2) bn (by decide) 0 (.bool false)) (bn.set_ 0 (.bool false)) (by decide) 1 (.slice A1 ks.length c1)) ((bn.set_ 0 (.bool false)).set_ 1 (.slice A1 ks.length c1)) (by decide) 2 (.slice A2 vs.length c2)) (((bn.set_ 0 (.bool false)).set_ 1 (.slice A1 ks.length c1)).set_ 2 (.slice A2 vs.length c2)) (by decide) 3 (.int .u64 lk)
              clear HO
              replace B0 := below_setN (g := gx) B0 HGX.out (.bool false) (.slice A1 ks.length c1) (.slice A2 vs.length c2) (.int .u64 lk)
              replace bn := bn.setN (.bool false) (.slice A1 ks.length c1) (.slice A2 vs.length c2) (.int .u64 lk)
              generalize (((w4.setCell ⟨gx, 0, none⟩ (.bool false)).setCell ⟨gx, 1, none⟩ (.slice A1 ks.length c1)).setCell ⟨gx, 2, none⟩ (.slice A2 vs.length c2)).setCell ⟨gx, 3, none⟩ (.int .u64 lk) = wz at *
              refine hK.out _ _ (by exact mem5 M) (fun hHeld => ?_)
              clear hK K
              try simp only [Act.put, List.setIfInBounds_toArray, List.set_cons_zero, List.set_cons_succ]
              refine' wpAnyZ_takeA (i := 13) (v := ?_) (opAt rfl) (by kernel_rfl) (by kernel_rfl) (by kernel_rfl) (by kernel_rfl) (fun _ _ _ h => h) (by assumption) (by rfl) (fun w hSw => ?_) ?_
              rotate_left
              · (try dsimp only at hSw); go_simp; (try with_reducible rfl)
              try simp only [Act.put, List.setIfInBounds_toArray, List.set_cons_zero, List.set_cons_succ]
              refine wpAnyZ_done (by kernel_rfl) ?_ _
              go_wp2_with fail
              go_meet
              exact ⟨gx, _, _, rfl, rfl, bn, o1, o2, M, B0⟩
            exact AllReadyZ.nil
          exact AllReadyZ.nil
        exact AllReadyZ.nil
      exact AllReadyZ.nil
    refine AllReadyZ.cons (opAt rfl) (fun K hK => ?_) ?_
    · skip
      go_simp
      have bn := Blk.new w1d 94 #[.bool false, .slice none 0 0, .slice none 0 0, .int .u64 0]
      have HGX := hide (show w.heap.size ≤ w1d.heap.size from B0.size)
      have HGM := hide (show gm ≠ w1d.heap.size ∧ gw ≠ w1d.heap.size from ⟨Nat.ne_of_lt (Blk.lt M.1), Nat.ne_of_lt (Blk.lt M.2.1)⟩)
      replace M := M.below ((Below.refl w1d.heap.size w1d).alloc (Nat.le_refl _) (.cells #[.bool false, .slice none 0 0, .slice none 0 0, .int .u64 0] 94))
      replace B0 := B0.alloc B0.size (.cells #[.bool false, .slice none 0 0, .slice none 0 0, .int .u64 0] 94)
      generalize w1d.alloc (.cells #[.bool false, .slice none 0 0, .slice none 0 0, .int .u64 0] 94) = w2 at *
      generalize w1d.heap.size = gx at *
      refine hK.out _ _ (by exact mem5 M) (fun hHeld => ?_)
      clear hK K
      try simp only [Act.put, List.setIfInBounds_toArray, List.set_cons_zero, List.set_cons_succ]
      refine wpAnyZ_ready (rs := [2]) (by kernel_rfl) (by simp) ?_
      refine AllReadyZ.cons (opAt rfl) (fun K hK => ?_) ?_
      · skip
        go_simp
        refine (AN.out _ M).mono ?_
        rintro e w3 ⟨⟨v, rfl, hnd⟩, hb1⟩
        obtain ⟨kv, uv, rfl, o1, o2⟩ := hnd
        obtain ⟨A1, c1, rfl, _⟩ := own_reads o1
        obtain ⟨A2, c2, rfl, _⟩ := own_reads o2
        replace M := M.below hb1
        replace bn := bn.below hb1 bn.lt
        have o1 := own_mono o1 B0.size
        have o2 := own_mono o2 B0.size
        replace B0 := B0.trans (hb1.mono B0.size)
        clear hb1
        refine hK.out _ _ (by exact mem5 M) (fun hHeld => ?_)
        clear hK K
        try simp only [Act.put, List.setIfInBounds_toArray, List.set_cons_zero, List.set_cons_succ]
        refine wpAnyZ_ready (rs := [9]) (by kernel_rfl) (by simp) ?_
        refine AllReadyZ.cons (opAt rfl) (fun K hK => ?_) ?_
        · skip
          go_simp
          refine (CV.out _).mono ?_
          rintro e w4 ⟨rfl, hb1⟩
          replace M := M.below hb1
          replace bn := bn.below hb1 bn.lt
          replace o1 := own_below o1 hb1
          replace o2 := own_below o2 hb1
          replace B0 := B0.trans (hb1.mono B0.size)
          clear hb1
          refine hK.out _ _ (by exact mem5 M) (fun hHeld => ?_)
          clear hK K
          try simp only [Act.put, List.setIfInBounds_toArray, List.set_cons_zero, List.set_cons_succ]
          refine wpAnyZ_ready (rs := [10]) (by kernel_rfl) (by simp) ?_
          refine AllReadyZ.cons (opAt rfl) (fun K hK => ?_) ?_
          · skip
            go_simp
            refine (WD.out _ M).mono ?_
            rintro e w5 ⟨rfl, rfl⟩
            refine hK.out _ _ (by exact mem5 M) (fun hHeld => ?_)
            clear hK K
            try simp only [Act.put, List.setIfInBounds_toArray, List.set_cons_zero, List.set_cons_succ]
            refine wpAnyZ_ready (rs := [12]) (by kernel_rfl) (by simp) ?_
            refine AllReadyZ.cons (opAt rfl) (fun K hK => ?_) ?_
            · skip
              have zn := fun i => bn.frozen i
              have mn := fun i => bn.cell i
              go_simp
              clear zn mn
              replace M := M.grown (grown_set _ gx 0 (.bool false)) (fun e => by injection e with e; exact HGM.out.1 e) (fun e => by injection e with e; exact HGM.out.2 e)
              replace M := M.grown (grown_set _ gx 1 (.slice A1 ks.length c1)) (fun e => by injection e with e; exact HGM.out.1 e) (fun e => by injection e with e; exact HGM.out.2 e)
              replace M := M.grown (grown_set _ gx 2 (.slice A2 vs.length c2)) (fun e => by injection e with e; exact HGM.out.1 e) (fun e => by injection e with e; exact HGM.out.2 e)
              replace M := M.grown (grown_set _ gx 3 (.int .u64 lk)) (fun e => by injection e with e; exact HGM.out.1 e) (fun e => by injection e with e; exact HGM.out.2 e)
              have HO := hide (And.intro o1 o2)
              clear o1 o2
              have o1 := own_setT (own_setT (own_setT (own_setT (show w4.ownsRow _ _ _ _ _ _ from HO.out.1) bn (by decide) 0 (.bool false)) (bn.set_ 0 (.bool false)) (by decide) 1 (.slice A1 ks.length c1)) ((bn.set_ 0 (.bool false)).set_ 1 (.slice A1 ks.length c1)) (by decide) 2 (.slice A2 vs.length c2)) (((bn.set_ 0 (.bool false)).set_ 1 (.slice A1 ks.length c1)).set_ 2 (.slice A2 vs.length c2)) (by decide) 3 (.int .u64 lk)
              have o2 := own_setT (own_setT (own_setT (own_setT (show w4.ownsRow _ _ _ _ _ _ from HO.out.2) bn (by decide) 0 (.bool false)) (bn.set_ 0 (.bool false)) (by decide) 1 (.slice A1 ks.length c1)) ((bn.set_ 0 (.bool false)).set_ 1 (.slice A1 ks.length c1)) (by decide) 2 (.slice A2 vs.length c2)) (((bn.set_ 0 (.bool false)).set_ 1 (.slice A1 ks.length c1)).set_ 2 (.slice A2 vs.length c2)) (by decide) 3 (.int .u64 lk)
              clear HO
              replace B0 := below_setN (g := gx) B0 HGX.out (.bool false) (.slice A1 ks.length c1) (.slice A2 vs.length c2) (.int .u64 lk)
              replace bn := bn.setN (.bool false) (.slice A1 ks.length c1) (.slice A2 vs.length c2) (.int .u64 lk)
              generalize (((w4.setCell ⟨gx, 0, none⟩ (.bool false)).setCell ⟨gx, 1, none⟩ (.slice A1 ks.length c1)).setCell ⟨gx, 2, none⟩ (.slice A2 vs.length c2)).setCell ⟨gx, 3, none⟩ (.int .u64 lk) = wz at *
              refine hK.out _ _ (by exact mem5 M) (fun hHeld => ?_)
              clear hK K
              try simp only [Act.put, List.setIfInBounds_toArray, List.set_cons_zero, List.set_cons_succ]
              refine' wpAnyZ_takeA (i := 13) (v := ?_) (opAt rfl) (by kernel_rfl) (by kernel_rfl) (by kernel_rfl) (by kernel_rfl) (fun _ _ _ h => h) (by assumption) (by rfl) (fun w hSw => ?_) ?_
              rotate_left
              · (try dsimp only at hSw); go_simp; (try with_reducible rfl)
              try simp only [Act.put, List.setIfInBounds_toArray, List.set_cons_zero, List.set_cons_succ]
              refine wpAnyZ_done (by kernel_rfl) ?_ _
              go_wp2_with fail
              go_meet
              exact ⟨gx, _, _, rfl, rfl, bn, o1, o2, M, B0⟩
            exact AllReadyZ.nil
          exact AllReadyZ.nil
        exact AllReadyZ.nil
      exact AllReadyZ.nil
    exact AllReadyZ.nil
  case rest =>
    clear M B0
    obtain ⟨bn, kv, uv, rfl, rfl, bn0, o1, o2, M, B0⟩ := hcut
    go_wp2_with fail
    refine (HHC.out _ M).mono ?_
    rintro e w3 ⟨rfl, hb1⟩
    replace B0 := B0.trans (hb1.mono B0.size)
    replace o1 := own_below o1 hb1
    replace o2 := own_below o2 hb1
    replace bn0 := bn0.below hb1 bn0.lt
    clear hb1 M
    go_wp2_with fail
    refine (HT.out _).mono ?_
    rintro e w4 ⟨rfl, hb1⟩
    replace B0 := B0.trans (hb1.mono B0.size)
    replace o1 := own_below o1 hb1
    replace o2 := own_below o2 hb1
    replace bn0 := bn0.below hb1 bn0.lt
    clear hb1
    obtain ⟨A1, c1, rfl, R1⟩ := own_reads o1
    obtain ⟨A2, c2, rfl, R2⟩ := own_reads o2
    have HBN := hide bn0
    have HBL := hide bn0.lt
    have HR1 := hide R1
    have HR2 := hide R2
    have HB0 := hide B0
    clear bn0 o1 o2 R1 R2 B0
    have bs := Blk.new w4 9 #[.string (htx hv), .string ⟨#[108, 101, 97, 102]⟩]
    have Bq := (Below.refl w4.heap.size w4).alloc (Nat.le_refl _) (.cells #[.string (htx hv), .string ⟨#[108, 101, 97, 102]⟩] 9)
    generalize htx hv = th at *
    go_upto_if 38 with fail
    generalize hg4 : w4.heap.size = g4 at *
    have HG4 := hide hg4
    clear hg4
    go_cut [] from 38 to 40 (fun wx => Blk wx g4 9 #[.string s0, .string ⟨#[108, 101, 97, 102]⟩] ∧ Below g4 w4 wx)
    case first =>
      cases hq : (k == 0)
      case true =>
        have h0 : k = 0 := by simpa using hq
        clear hq
        have hs9 : s0 = anchorB := HS0.out.trans (if_pos h0)
        have HS9 := hide hs9
        clear h0 hs9
        generalize w4.alloc (.cells #[.string th, .string ⟨#[108, 101, 97, 102]⟩] 9) = wk at *
        have zb := fun i => bs.frozen i
        have mb := fun i => bs.cell i
        go_wp2_with fail
        go_meet
        exact ⟨by rw [HS9.out]; exact bs.set_ 0 (.string ⟨#[97, 110, 99, 104, 111, 114]⟩), Bq.setCell (p := ⟨g4, 0, none⟩) (Nat.le_refl _) _⟩
      case false =>
        have h0 : ¬ k = 0 := by simpa using hq
        clear hq
        have hs9 : s0 = th := HS0.out.trans (if_neg h0)
        have HS9 := hide hs9
        clear h0 hs9
        generalize w4.alloc (.cells #[.string th, .string ⟨#[108, 101, 97, 102]⟩] 9) = wk at *
        go_wp2_with fail
        go_meet
        exact ⟨by rw [HS9.out]; exact bs, Bq⟩
    case rest =>
      clear bs Bq
      obtain ⟨bs, Bq⟩ := hcut
      have bnx := HBN.out.below Bq HBL.out
      have mn := fun i => bnx.cell i
      have zb := fun i => bs.frozen i
      have mb := fun i => bs.cell i
      go_wp2_with fail
      refine (VL.out _).mono ?_
      rintro e w' ⟨rfl, rfl⟩
      clear mn bnx zb mb
      generalize wc = wm at *
      have ho : wm.ownsRow g4 9 1 (.slice (some ⟨g4, 0, none⟩) 2 2) 2 (strs [s0, leafB]) := own_of_blk bs (Nat.le_refl _) rfl (by omega)
      clear bs
      go_upto_if 46 with fail
      go_cut [7] from 46 to 49 (fun s7 wx => NdW g4 (wA s0 leafB lo) w4 s7 wx)
      case first =>
        cases lo
        · go_wp2_with fail
          go_meet
          exact ⟨_, 2, _, rfl, rfl, ho, Bq⟩
        · skip
          have hr6 := Reads.new wm (strs [⟨#[108, 111, 99, 107, 101, 100]⟩]) 9 1 1 rfl
          replace ho := World.ownsRow.alloc ho (.cells #[.string ⟨#[108, 111, 99, 107, 101, 100]⟩] 9)
          have hsz : g4 ≤ wm.heap.size := by have h1 := Bq.size; have h2 := HG4.out; omega
          replace Bq := Bq.alloc hsz (.cells #[.string ⟨#[108, 111, 99, 107, 101, 100]⟩] 9)
          have bnx := HBN.out.below Bq HBL.out
          have mn := fun i => bnx.cell i
          go_wp2_with (at_builtin; refine wpList_append_any _ rfl (.tmp 47) (.tmp 48) _ rfl g4 9 i0 _ 1 16 Tryd.underlying44 hi0 hz0 hs0 hb0 rfl (by omega) _ (2) _ rfl ho (wm.heap.size + 1) (some ⟨wm.heap.size, 0, none⟩) 1 1 (strs [⟨#[108, 111, 99, 107, 101, 100]⟩]) rfl hr6 (strs_one _) (by unfold maxLen; omega) (by omega) (by simp only [World.size_alloc]; omega) ?_; intro v3 w7 ho3 hg3 hat3; replace Bq := below_appended Bq ho hg3 (Nat.le_refl _) (by simp only [World.size_alloc]; omega); obtain ⟨A3, c3, rfl, _⟩ := own_reads ho3; rw [← strs_app] at ho3; clear ho hg3 hat3 hr6 hsz mn bnx; have ho := ho3; clear ho3; have bnx := HBN.out.below Bq HBL.out; have mn := fun i => bnx.cell i)
          go_meet
          exact ⟨_, 2 + 1, _, rfl, rfl, ho, Bq⟩
      case rest =>
        clear ho Bq
        obtain ⟨A, n, c, rfl, hn, ho, Bq⟩ := hcut
        go_wp2_with fail
        refine (VD.out _).mono ?_
        rintro e w' ⟨rfl, rfl⟩
        have hn3 : n ≤ 3 := by rw [← hn]; cases lo <;> simp [wA]
        have HNE := hide hn
        clear hn
        go_upto_if 51 with fail
        go_cut [7] from 51 to 54 (fun s7 wx => NdW g4 (wB s0 leafB lo de) w4 s7 wx)
        case first =>
          cases de
          · go_wp2_with fail
            go_meet
            exact ⟨_, n, _, rfl, by rw [← HNE.out]; simp [wB], by rw [show wB s0 leafB lo false = wA s0 leafB lo by simp [wB]]; exact ho, Bq⟩
          · skip
            have hr6 := Reads.new wc (strs [⟨#[100, 101, 97, 100]⟩]) 9 1 1 rfl
            replace ho := World.ownsRow.alloc ho (.cells #[.string ⟨#[100, 101, 97, 100]⟩] 9)
            have hsz : g4 ≤ wc.heap.size := by have h1 := Bq.size; have h2 := HG4.out; omega
            replace Bq := Bq.alloc hsz (.cells #[.string ⟨#[100, 101, 97, 100]⟩] 9)
            have bnx := HBN.out.below Bq HBL.out
            have mn := fun i => bnx.cell i
            go_wp2_with (at_builtin; refine wpList_append_any _ rfl (.tmp 52) (.tmp 53) _ rfl g4 9 i0 _ 1 16 Tryd.underlying44 hi0 hz0 hs0 hb0 rfl (by omega) _ (n) _ rfl ho (wc.heap.size + 1) (some ⟨wc.heap.size, 0, none⟩) 1 1 (strs [⟨#[100, 101, 97, 100]⟩]) rfl hr6 (strs_one _) (by unfold maxLen; omega) (by omega) (by simp only [World.size_alloc]; omega) ?_; intro v3 w7 ho3 hg3 hat3; replace Bq := below_appended Bq ho hg3 (Nat.le_refl _) (by simp only [World.size_alloc]; omega); obtain ⟨A3, c3, rfl, _⟩ := own_reads ho3; rw [← strs_app] at ho3; clear ho hg3 hat3 hr6 hsz mn bnx; have ho := ho3; clear ho3; have bnx := HBN.out.below Bq HBL.out; have mn := fun i => bnx.cell i)
            go_meet
            exact ⟨_, n + 1, _, rfl, by rw [← HNE.out]; simp [wB], ho, Bq⟩
        case rest =>
          clear ho Bq HNE
          obtain ⟨A, n, c, rfl, hn, ho, Bq⟩ := hcut
          have HNL := hide (show n ≤ 4 by have := wB_len s0 leafB lo de; omega)
          have HNP := hide (show 0 < n by have := List.length_pos_iff.2 (wB_ne s0 leafB lo de); omega)
          clear hn
          have HEL := hide (show nodeL s0 leafB lo de false ks vs lk = wC (wB s0 leafB lo de) false ks vs vs.length ++ (if false = false ∧ lk ≠ 0 then [nextB, htx lk] else []) from rfl)
          rw [HEL.out] at E
          generalize wB s0 leafB lo de = W0 at *
          clear HEL
          have bnx := HBN.out.below Bq HBL.out
          have mn := fun i => bnx.cell i
          go_wp2_with fail
          clear mn bnx
          obtain ⟨N, hN⟩ : ∃ N, vs.length = N := ⟨_, rfl⟩
          rw [hN]
          have HN := hide hN
          clear hN
          go_loopw [7, 58] (NdLp g4 N W0 false ks vs w4) (fun _ v _ => N - (intOf v).toNat)
          case atStart => exact ⟨0, n, A, c, rfl, by omega, rfl, HNP.out, HNL.out, by rw [wC_zero]; exact ho, Bq⟩
          case round =>
            clear ho Bq
            obtain ⟨j, n1, A3, c3, rfl, hj, rfl, hn1, hn2, ho, Bq⟩ := hrel
            have HN64 := HVN.out
            rw [HN.out] at HN64
            have bnx := HBN.out.below Bq HBL.out
            have mn := fun i => bnx.cell i
            by_cases hlt : j < N
            · have hltz : (j : Int) < (N : Int) := by omega
              have HVB := (HR2.out.below Bq)
              rw [HN.out] at HVB
              obtain ⟨a2, hA2, hl2, z2⟩ := HVB.word hlt
              subst hA2
              have HW2 := HV64.out _ (List.getElem_mem hl2)
              have hg2 : vs.getD j 0 = vs[j] := by simp [List.getD, hl2]
              generalize vs[j] = vj at *
              clear HVB hl2
              have HKB := (HR1.out.below Bq)
              rw [HKN.out, HN.out] at HKB
              obtain ⟨a1, hA1, hl1, z1⟩ := HKB.word hlt
              subst hA1
              have HW1 := HK64.out _ (List.getElem_mem hl1)
              have hg1 : ks.getD j 0 = ks[j] := by simp [List.getD, hl1]
              generalize ks[j] = kj at *
              clear HKB hl1
              have DE := hide (fun w2 => dentry_any kj vj w2 HW1 HW2)
              have HEW := hide (show wC W0 false ks vs (j + 1) = wC W0 false ks vs j ++ [entT kj vj] by rw [wC_succ]; unfold entW; rw [hg1, hg2]; rfl)
              clear hg1 hg2 HW1 HW2
              generalize entT kj vj = en at *
              have hjk : j < ks.length := by have h1 := HKN.out; have h2 := HN.out; omega
              have hjk2 : (j : Int) < (ks.length : Int) := by omega
              go_wp2_with fail
              refine (DE.out _).mono ?_
              rintro e w7 ⟨rfl, hb1⟩
              replace ho := own_below ho hb1
              replace Bq := Bq.trans (hb1.mono (by have h1 := Bq.size; have h2 := HG4.out; omega))
              clear hb1 mn bnx z1 z2
              have hr6 := Reads.new w7 (strs [en]) 9 1 1 rfl
              replace ho := World.ownsRow.alloc ho (.cells #[.string en] 9)
              have hsz : g4 ≤ w7.heap.size := by have h1 := Bq.size; have h2 := HG4.out; omega
              replace Bq := Bq.alloc hsz (.cells #[.string en] 9)
              have bnx := HBN.out.below Bq HBL.out
              have mn := fun i => bnx.cell i
              go_wp2_with (at_builtin; refine wpList_append_any _ rfl (.tmp 72) (.tmp 80) _ rfl g4 9 i0 _ 1 16 Tryd.underlying44 hi0 hz0 hs0 hb0 rfl (by omega) _ (n1) _ rfl ho (w7.heap.size + 1) (some ⟨w7.heap.size, 0, none⟩) 1 1 (strs [en]) rfl hr6 (strs_one _) (by unfold maxLen; omega) (by omega) (by simp only [World.size_alloc]; omega) ?_; intro v3 w8 ho3 hg3 hat3; replace Bq := below_appended Bq ho hg3 (Nat.le_refl _) (by simp only [World.size_alloc]; omega); obtain ⟨A3, c3, rfl, _⟩ := own_reads ho3; rw [← strs_app] at ho3; clear ho hg3 hat3 hr6 hsz mn bnx; have ho := ho3; clear ho3; have bnx := HBN.out.below Bq HBL.out; have mn := fun i => bnx.cell i)
              go_roundw
              case rel => exact ⟨j + 1, n1 + 1, A3, c3, by go_num, by omega, rfl, by omega, by omega, by rw [HEW.out]; exact ho, Bq⟩
              case measure => simp [intOf]; omega
            · obtain rfl : j = N := by omega
              by_cases hl0 : lk = 0
              · subst hl0
                have hE : R = joinT (wC W0 false ks vs j) := by rw [E.out, HN.out]; simp
                rw [hE] at HSZ
                have HE := hide hE
                have TX := hide (fun A9 c9 w2 (h : w2.ownsRow g4 9 1 (.slice A9 (n1) c9) (n1) (strs (wC W0 false ks vs j))) => dtext_any g4 (n1) c9 A9 _ w2 h (by omega) (by have := HSZ.out; omega) (by omega))
                clear hE E
                generalize joinT (wC W0 false ks vs j) = Q at *
                have TX2 := hide (TX.out _ _ _ ho)
                clear TX ho
                go_wp2_with fail
                refine (TX2.out).mono ?_
                rintro e w9 ⟨rfl, hb1⟩
                go_wp2_with fail
                go_ret
                exact ⟨by rw [HE.out]; rfl, HB0.out.trans ((Bq.trans (hb1.mono (by have h1 := Bq.size; have h2 := HG4.out; omega))).mono (by rw [← HG4.out]; exact HB0.out.size))⟩
              · have hE : R = joinT (wC W0 false ks vs j ++ [nextB, htx lk]) := by rw [E.out, HN.out, if_pos (by simp [hl0])]
                have HTL := hide (fun w2 => htext_any lk w2 HLK.out)
                have q0 : (lk == 0) = false := by simp [hl0]
                rw [hE] at HSZ
                have HE := hide hE
                have TX := hide (fun A9 c9 w2 (h : w2.ownsRow g4 9 1 (.slice A9 (n1 + 2) c9) (n1 + 2) (strs (wC W0 false ks vs j ++ [nextB, htx lk]))) => dtext_any g4 (n1 + 2) c9 A9 _ w2 h (by omega) (by have := HSZ.out; omega) (by omega))
                clear hE E
                generalize joinT (wC W0 false ks vs j ++ [nextB, htx lk]) = Q at *
                clear hl0
                generalize htx lk = tl at *
                go_wp2_with fail
                refine (HTL.out _).mono ?_
                rintro e w7 ⟨rfl, hb1⟩
                replace ho := own_below ho hb1
                replace Bq := Bq.trans (hb1.mono (by have h1 := Bq.size; have h2 := HG4.out; omega))
                clear hb1 mn bnx
                have hr6 := Reads.new w7 (strs [⟨#[110, 101, 120, 116]⟩, tl]) 9 2 1 rfl
                replace ho := World.ownsRow.alloc ho (.cells #[.string ⟨#[110, 101, 120, 116]⟩, .string tl] 9)
                have hsz : g4 ≤ w7.heap.size := by have h1 := Bq.size; have h2 := HG4.out; omega
                replace Bq := Bq.alloc hsz (.cells #[.string ⟨#[110, 101, 120, 116]⟩, .string tl] 9)
                have bnx := HBN.out.below Bq HBL.out
                have mn := fun i => bnx.cell i
                go_wp2_with (at_builtin; refine wpList_append_any _ rfl (.tmp 106) (.tmp 110) _ rfl g4 9 i0 _ 1 16 Tryd.underlying44 hi0 hz0 hs0 hb0 rfl (by omega) _ (n1) _ rfl ho (w7.heap.size + 1) (some ⟨w7.heap.size, 0, none⟩) 2 2 (strs [⟨#[110, 101, 120, 116]⟩, tl]) rfl hr6 (strs_one _) (by unfold maxLen; omega) (by omega) (by simp only [World.size_alloc]; omega) ?_; intro v3 w8 ho3 hg3 hat3; replace Bq := below_appended Bq ho hg3 (Nat.le_refl _) (by simp only [World.size_alloc]; omega); obtain ⟨A3, c3, rfl, _⟩ := own_reads ho3; rw [← strs_app] at ho3; clear ho hg3 hat3 hr6 hsz mn bnx; have ho := ho3; clear ho3; have bnx := HBN.out.below Bq HBL.out; have mn := fun i => bnx.cell i)
                refine (TX.out _ _ _ ho).mono ?_
                rintro e w9 ⟨rfl, hb1⟩
                go_wp2_with fail
                go_ret
                exact ⟨by rw [HE.out]; rfl, HB0.out.trans ((Bq.trans (hb1.mono (by have h1 := Bq.size; have h2 := HG4.out; omega))).mono (by rw [← HG4.out]; exact HB0.out.size))⟩
end Go.Proofs.YtlnckjemfabckaaDoor

/-
  dump.lines.
-/
namespace Go.Proofs.YtlnckjemfabckaaDoor
open Go.RowKit

section
variable {T e : TypeId} {B b : Nat} {p : Value} {bs : List Value} {w w' : World}
theorem builderAt_below (h : Lib.BuilderAtF T e B b p bs w) (hb : Below w.heap.size w w') : Lib.BuilderAtF T e B b p bs w' := by
  have hlt := h.lt
  obtain ⟨hB, v, hbk, hown, hne⟩ := h
  exact ⟨hB, v, (hb.block b hlt).trans hbk, hown.kept (row := none) ⟨hb.os, hb.tape, hb.output, hb.size, fun k hk _ => hb.block k hk⟩ (by cases hv : v.ownBlock <;> simp), hne⟩
theorem builder_below (h : Lib.IsBuilderF T e B b bs w) (hb : Below w.heap.size w w') : Lib.IsBuilderF T e B b bs w' := h.elim (fun x => .inl (builderAt_below x hb)) (fun x => .inr (builderAt_below x hb))
theorem builder_lt (h : Lib.IsBuilderF T e B b bs w) : b < w.heap.size := h.elim (fun x => x.lt) (fun x => x.lt)
end
theorem strCells_app (a b : ByteArray) : Lib.strCells (a ++ b) = Lib.strCells a ++ Lib.strCells b := by simp [Lib.strCells]
theorem take_snoc {α : Type} {l : List α} {j : Nat} {x : α} (h : l[j]? = some x) : l.take (j + 1) = l.take j ++ [x] := by
  rw [List.take_add_one, h]
  rfl
theorem StepR.cells_len (s : StepR) : (StepR.cells s).length = 7 := rfl
def LnI (g N : Nat) (ts : List ByteArray) (w : World) (v10 : Value) (wr : World) : Prop :=
  ∃ (j : Nat), v10 = .int .i64 j ∧ j ≤ N ∧ Lib.IsBuilderF 75 5 g g (Lib.strCells (linesT (ts.take j))) wr ∧ Below g w wr
set_option maxRecDepth 100000 in
set_option maxHeartbeats 4000000 in
theorem lines_step (A : Option Addr) (n c : Nat) (l : List StepR) (w : World) (hr : Reads w w.heap.size 7 A n (l.flatMap StepR.cells)) (hn : n ≤ 5000)
    (LN : ∀ s ∈ l, ∀ w2, Below w.heap.size w w2 → Calls Tryd.prog 7 #[.agg (StepR.cells s).toArray] w2 fun e w' => e = .returned (.string (StepR.text s)) ∧ Below w2.heap.size w2 w') (hs : ∀ s ∈ l, (StepR.text s).size ≤ 4000) :
    Calls Tryd.prog 19 #[.slice A n c, .func (.func 7) #[] #[]] w fun e w' => e = .returned (.string (linesT (l.map (StepR.text)))) ∧ Below w.heap.size w w' := by
  have hl : l.length = n := hr.lenRec StepR.cells_len (by omega)
  have HL := hide hl
  have HR := hide hr
  have HLN := hide LN
  have HS := hide hs
  have hcf : ∀ args w', (callFunc 7 args).run Tryd.prog w' = .ok (.enter 7 args) w' := fun args w' => run_enter Tryd.func7 (by decide) (by simp [Tryd.f7]) args w'
  obtain ⟨ts, hts⟩ : ∃ ts, ts = l.map (StepR.text) := ⟨_, rfl⟩
  have HTS := hide hts
  have HZ := hide (fun j : Nat => linesT_size 4000 (ts.take j) (fun x hx => by
    rw [hts] at hx
    obtain ⟨s, h1, rfl⟩ := List.mem_map.1 (List.mem_of_mem_take hx)
    exact hs s h1))
  have HTL := hide (show ts.length = n by rw [hts, List.length_map, hl])
  rw [← hts]
  clear hts hl hr LN hs
  go_enter Tryd.func19, Tryd.ntmps19
  go_wp2_with fail
  go_loopw [10] (LnI w.heap.size n ts w) (fun v _ => n - (intOf v).toNat)
  case atStart => exact ⟨0, rfl, by omega, Lib.IsBuilderF.of (Lib.fresh_isBuilder 75 5 w), (Below.refl _ w).alloc (Nat.le_refl _) _⟩
  case round =>
    obtain ⟨j, rfl, hj, IB, B0⟩ := hrel
    have hlt0 := builder_lt IB
    generalize hgw : w.heap.size = g at *
    have HGW := hide hgw
    clear hgw
    by_cases hlt : j < n
    · obtain ⟨ad, s, hA, hab, hsj, z0, zz⟩ := (HR.out.below B0).recAt StepR.cells_len (by omega) hlt
      have z1 := zz 1 (by omega) (by omega)
      have z2 := zz 2 (by omega) (by omega)
      have z3 := zz 3 (by omega) (by omega)
      have z4 := zz 4 (by omega) (by omega)
      have z5 := zz 5 (by omega) (by omega)
      have z6 := zz 6 (by omega) (by omega)
      clear zz hab
      subst hA
      have hmem := List.mem_of_getElem? hsj
      have LNs := hide (HLN.out s hmem)
      have s7 := HS.out s hmem
      have htj : ts[j]? = some (StepR.text s) := by rw [HTS.out, List.getElem?_map, hsj]; rfl
      have HSN := hide (show linesT (ts.take (j + 1)) = linesT (ts.take j) ++ _ ++ nl1 from by rw [take_snoc htj, linesT_snoc])
      have hz := HZ.out j
      have hzl : (ts.take j).length ≤ 5000 := by rw [List.length_take, HTL.out]; omega
      have HLEN := hide (show (Lib.strCells (linesT (ts.take j))).length + (StepR.text s ++ nl1).size ≤ 140737488355328 from by rw [Lib.strCells_length, ba_size]; have h1 : nl1.size = 1 := rfl; have hz2 := Nat.mul_le_mul_right (4000 + 1) hzl; omega)
      clear hz hzl
      generalize StepR.text s = tx at *
      clear hmem hsj htj
      obtain ⟨th, k, at_, o, n0, g', ms, A0, cm⟩ := s
      replace z0 : wr.cell? (ad.add (j * 7)) = some (.int .i64 th) := z0
      replace z1 : wr.cell? ⟨(ad.add (j * 7)).block, (ad.add (j * 7)).off + 1, none⟩ = some (.int .i64 k) := z1
      replace z2 : wr.cell? ⟨(ad.add (j * 7)).block, (ad.add (j * 7)).off + 2, none⟩ = some (.int .i64 at_) := z2
      replace z3 : wr.cell? ⟨(ad.add (j * 7)).block, (ad.add (j * 7)).off + 3, none⟩ = some (.int .u64 (o : Nat)) := z3
      replace z4 : wr.cell? ⟨(ad.add (j * 7)).block, (ad.add (j * 7)).off + 4, none⟩ = some (.int .u64 (n0 : Nat)) := z4
      replace z5 : wr.cell? ⟨(ad.add (j * 7)).block, (ad.add (j * 7)).off + 5, none⟩ = some (.int .u64 (g' : Nat)) := z5
      replace z6 : wr.cell? ⟨(ad.add (j * 7)).block, (ad.add (j * 7)).off + 6, none⟩ = some (.slice A0 ms.length cm) := z6
      have bx := Blk.new wr 29 #[.int .i64 th, .int .i64 k, .int .i64 at_, .int .u64 (o : Nat), .int .u64 (n0 : Nat), .int .u64 (g' : Nat), .slice A0 ms.length cm]
      have mc := fun i => bx.cell i
      replace IB := IB.alloc (.cells #[.int .i64 th, .int .i64 k, .int .i64 at_, .int .u64 (o : Nat), .int .u64 (n0 : Nat), .int .u64 (g' : Nat), .slice A0 ms.length cm] 29)
      replace B0 := B0.alloc (Nat.le_of_lt hlt0) (.cells #[.int .i64 th, .int .i64 k, .int .i64 at_, .int .u64 (o : Nat), .int .u64 (n0 : Nat), .int .u64 (g' : Nat), .slice A0 ms.length cm] 29)
      have LN2 := hide (show ∀ w2, Below g w w2 → Calls Tryd.prog 7 #[.agg #[.int .i64 th, .int .i64 k, .int .i64 at_, .int .u64 (o : Nat), .int .u64 (n0 : Nat), .int .u64 (g' : Nat), .slice A0 ms.length cm]] w2 fun e w' => e = .returned (.string tx) ∧ Below w2.heap.size w2 w' from LNs.out)
      clear LNs hlt0
      have hltz : (j : Int) < (n : Int) := by omega
      go_wp2_with fail
      refine (LN2.out _ B0).mono ?_
      rintro e w7 ⟨rfl, hb1⟩
      replace B0 := B0.trans (hb1.mono (Nat.le_of_lt (builder_lt IB)))
      replace IB := builder_below IB hb1
      have hlt0 := builder_lt IB
      clear hb1 bx mc z0 z1 z2 z3 z4 z5 z6
      go_wp2_with fail
      have BW := hide (bwrite_any g g _ (tx ++ nl1) w7 IB HLEN.out (Nat.le_of_lt hlt0))
      rw [show nl1 = ⟨#[10]⟩ from rfl] at BW
      generalize hLC : Lib.strCells (linesT (ts.take j)) = lc at *
      have HLC := hide hLC
      clear hLC
      refine (BW.out).mono ?_
      rintro e w8 ⟨rfl, h1, hb1, _⟩
      replace B0 := B0.trans hb1
      rw [← HLC.out, ← strCells_app, ← ba_assoc, show (⟨#[10]⟩ : ByteArray) = nl1 from rfl] at h1
      have HT := hide h1
      clear h1 hb1 IB
      go_wp2_with fail
      go_roundw
      case rel => exact ⟨j + 1, by go_num, by omega, Or.inr (by rw [HSN.out]; exact HT.out), B0⟩
      case measure => simp [intOf]; omega
    · obtain rfl : j = n := by omega
      have htk : ts.take j = ts := List.take_of_length_le (by rw [HTL.out]; exact Nat.le_refl _)
      rw [htk] at IB
      rw [Lib.strCells_eq] at IB
      have BS := hide (bstring_any g g (linesT ts).data.toList wr IB (Nat.le_of_lt hlt0))
      rw [ba_self] at BS
      clear htk IB
      generalize hQ : linesT ts = Q at *
      have HQ := hide hQ
      clear hQ
      go_wp2_with fail
      refine (BS.out).mono ?_
      rintro e w9 ⟨rfl, hb1⟩
      go_wp2_with fail
      go_ret
      exact ⟨by rw [HQ.out]; rfl, by rw [HGW.out]; exact B0.trans hb1⟩
set_option maxHeartbeats 400000 in
theorem dsteps_any (A : Option Addr) (n c : Nat) (l : List StepR) (w : World) (hr : Reads w w.heap.size 7 A n (l.flatMap StepR.cells)) (hn : n ≤ 5000)
    (LN : ∀ s ∈ l, ∀ w2, Below w.heap.size w w2 → Calls Tryd.prog 7 #[.agg (StepR.cells s).toArray] w2 fun e w' => e = .returned (.string (StepR.text s)) ∧ Below w2.heap.size w2 w') (hs : ∀ s ∈ l, (StepR.text s).size ≤ 4000) :
    Calls Tryd.prog 9 #[.slice A n c] w fun e w' => e = .returned (.string (linesT (l.map StepR.text))) ∧ Below w.heap.size w w' := by
  have F := hide (lines_step A n c l w hr hn LN hs)
  generalize linesT (l.map StepR.text) = Q at *
  clear hr LN hs
  go_enter Tryd.func9, Tryd.ntmps9
  go_wp2_with fail
  refine F.out.mono ?_
  rintro e w1 ⟨rfl, hb1⟩
  go_wp2_with fail
  go_ret
  exact ⟨rfl, hb1⟩
theorem int_cells_len (x : Int) : [Value.int .i64 x].length = 1 := rfl
set_option maxRecDepth 100000 in
set_option maxHeartbeats 4000000 in
theorem lines_int (A : Option Addr) (n c : Nat) (l : List Int) (text : Int → ByteArray) (bx : Nat) (w : World) (hr : Reads w w.heap.size 1 A n (l.flatMap (fun x => [Value.int .i64 x]))) (hn : n ≤ 5000)
    (LN : ∀ s ∈ l, ∀ w2, Below w.heap.size w w2 → Calls Tryd.prog 34 #[.int .i64 s, .pointer (some ⟨bx, 0, none⟩)] w2 fun e w' => e = .returned (.string (text s)) ∧ Below w2.heap.size w2 w') (hs : ∀ s ∈ l, (text s).size ≤ 20000) :
    Calls Tryd.prog 32 #[.slice A n c, .func (.func 34) #[] #[.pointer (some ⟨bx, 0, none⟩)]] w fun e w' => e = .returned (.string (linesT (l.map (text)))) ∧ Below w.heap.size w w' := by
  have hl : l.length = n := hr.lenRec int_cells_len (by omega)
  have HL := hide hl
  have HR := hide hr
  have HLN := hide LN
  have HS := hide hs
  have hcf : ∀ args w', (callFunc 34 args).run Tryd.prog w' = .ok (.enter 34 args) w' := fun args w' => run_enter Tryd.func34 (by decide) (by simp [Tryd.f34]) args w'
  obtain ⟨ts, hts⟩ : ∃ ts, ts = l.map (text) := ⟨_, rfl⟩
  have HTS := hide hts
  have HZ := hide (fun j : Nat => linesT_size 20000 (ts.take j) (fun x hx => by
    rw [hts] at hx
    obtain ⟨s, h1, rfl⟩ := List.mem_map.1 (List.mem_of_mem_take hx)
    exact hs s h1))
  have HTL := hide (show ts.length = n by rw [hts, List.length_map, hl])
  rw [← hts]
  clear hts hl hr LN hs
  go_enter Tryd.func32, Tryd.ntmps32
  go_wp2_with fail
  go_loopw [10] (LnI w.heap.size n ts w) (fun v _ => n - (intOf v).toNat)
  case atStart => exact ⟨0, rfl, by omega, Lib.IsBuilderF.of (Lib.fresh_isBuilder 75 5 w), (Below.refl _ w).alloc (Nat.le_refl _) _⟩
  case round =>
    obtain ⟨j, rfl, hj, IB, B0⟩ := hrel
    have hlt0 := builder_lt IB
    generalize hgw : w.heap.size = g at *
    have HGW := hide hgw
    clear hgw
    by_cases hlt : j < n
    · obtain ⟨ad, s, hA, hab, hsj, z0, zz⟩ := (HR.out.below B0).recAt int_cells_len (by omega) hlt
      clear zz hab
      subst hA
      have hmem := List.mem_of_getElem? hsj
      have LNs := hide (HLN.out s hmem)
      have s7 := HS.out s hmem
      have htj : ts[j]? = some (text s) := by rw [HTS.out, List.getElem?_map, hsj]; rfl
      have HSN := hide (show linesT (ts.take (j + 1)) = linesT (ts.take j) ++ _ ++ nl1 from by rw [take_snoc htj, linesT_snoc])
      have hz := HZ.out j
      have hzl : (ts.take j).length ≤ 5000 := by rw [List.length_take, HTL.out]; omega
      have HLEN := hide (show (Lib.strCells (linesT (ts.take j))).length + (text s ++ nl1).size ≤ 140737488355328 from by rw [Lib.strCells_length, ba_size]; have h1 : nl1.size = 1 := rfl; have hz2 := Nat.mul_le_mul_right (20000 + 1) hzl; omega)
      clear hz hzl
      generalize text s = tx at *
      clear hmem hsj htj
      replace z0 : wr.cell? (ad.add j) = some (.int .i64 s) := by rw [Nat.mul_one] at z0; exact z0
      have LN2 := hide (show ∀ w2, Below g w w2 → Calls Tryd.prog 34 #[.int .i64 s, .pointer (some ⟨bx, 0, none⟩)] w2 fun e w' => e = .returned (.string tx) ∧ Below w2.heap.size w2 w' from LNs.out)
      skip
      skip
      clear LNs hlt0
      have hltz : (j : Int) < (n : Int) := by omega
      go_wp2_with fail
      refine (LN2.out _ B0).mono ?_
      rintro e w7 ⟨rfl, hb1⟩
      replace B0 := B0.trans (hb1.mono (Nat.le_of_lt (builder_lt IB)))
      replace IB := builder_below IB hb1
      have hlt0 := builder_lt IB
      clear hb1 z0
      go_wp2_with fail
      have BW := hide (bwrite_any g g _ (tx ++ nl1) w7 IB HLEN.out (Nat.le_of_lt hlt0))
      rw [show nl1 = ⟨#[10]⟩ from rfl] at BW
      generalize hLC : Lib.strCells (linesT (ts.take j)) = lc at *
      have HLC := hide hLC
      clear hLC
      refine (BW.out).mono ?_
      rintro e w8 ⟨rfl, h1, hb1, _⟩
      replace B0 := B0.trans hb1
      rw [← HLC.out, ← strCells_app, ← ba_assoc, show (⟨#[10]⟩ : ByteArray) = nl1 from rfl] at h1
      have HT := hide h1
      clear h1 hb1 IB
      go_wp2_with fail
      go_roundw
      case rel => exact ⟨j + 1, by go_num, by omega, Or.inr (by rw [HSN.out]; exact HT.out), B0⟩
      case measure => simp [intOf]; omega
    · obtain rfl : j = n := by omega
      have htk : ts.take j = ts := List.take_of_length_le (by rw [HTL.out]; exact Nat.le_refl _)
      rw [htk] at IB
      rw [Lib.strCells_eq] at IB
      have BS := hide (bstring_any g g (linesT ts).data.toList wr IB (Nat.le_of_lt hlt0))
      rw [ba_self] at BS
      clear htk IB
      generalize hQ : linesT ts = Q at *
      have HQ := hide hQ
      clear hQ
      go_wp2_with fail
      refine (BS.out).mono ?_
      rintro e w9 ⟨rfl, hb1⟩
      go_wp2_with fail
      go_ret
      exact ⟨by rw [HQ.out]; rfl, by rw [HGW.out]; exact B0.trans hb1⟩
end Go.Proofs.YtlnckjemfabckaaDoor

