/-
  A map from a slot and a generation to an int that the call itself makes: what stands at a key, behind an entry's making, behind its store.
-/
import Derived.Test.YthpgoglhccoeeaaMem
import Derived.Test.YthpgoglhccoeeaaPlain
import Derived.Maps.Own
import Derived.Maps.OwnOps
import Derived.Maps.Views
import Derived.DeepKeys4
import Derived.WideKeyEntry
namespace Go.Proofs.Ythpgoglhccoeeaa
open Go.RowKit Go.Maps
open Go.ChangeMaps (setBlock)

theorem laidOne : laidOutB Try.prog = true := by kernel_rfl
theorem rowOne : (52 : TypeId) < Try.prog.types.size := of_decide_eq_true (by kernel_rfl)
theorem wideOne : (match Try.prog.underlying 52 with | some (.array _ _) | some (.struct _) => true | _ => false) = true := by rw [Try.underlying52]
theorem lawOneK : WideMaps.KeyLaw Try.prog 52 := deep_law_laid laidOne (m := 3) (by omega) rowOne (by kernel_rfl) wideOne
theorem lawOne : Keyed Try.prog 52 := Keyed.of_law lawOneK
theorem zeroInt (w : World) : (zeroValue 3).run Try.prog w = .ok (.int .i64 0) w := by kernel_rfl
theorem keyTyOne : Try.prog.keyType 52 = true := by kernel_rfl
theorem cellsOne : Try.prog.cellsOf 52 = 2 := by kernel_rfl
theorem cellsI : Try.prog.cellsOf 3 = 1 := by kernel_rfl
theorem cellsU : Try.prog.cellsOf 22 = 1 := by kernel_rfl
theorem sizeTy : ∃ m, Try.prog.types.size = m + 1 := by
  obtain ⟨m, hm⟩ := Nat.exists_eq_succ_of_ne_zero (Nat.ne_of_gt (Nat.lt_of_le_of_lt (Nat.zero_le _) rowOne))
  exact ⟨m, hm⟩
abbrev oneV (a b : Int) : Value := .agg #[.int .i64 a, .int .u64 b]
def oneK (a b : Int) : Lit := .string (keyBytes [.int .i64 a, .int .u64 b])
theorem litI (m : Nat) {a : Int} (ha : (Lit.int .i64 a).wf = true) : Try.prog.keyLits (m + 1) 3 [.int .i64 a] = some [.int .i64 a] := by
  unfold Program.keyLits
  rw [Try.underlying3]
  simp [ha]
theorem litU (m : Nat) {b : Int} (hb : (Lit.int .u64 b).wf = true) : Try.prog.keyLits (m + 1) 22 [.int .u64 b] = some [.int .u64 b] := by
  unfold Program.keyLits
  rw [Try.underlying22]
  simp [hb]
theorem litOne (m : Nat) {a b : Int} (ha : (Lit.int .i64 a).wf = true) (hb : (Lit.int .u64 b).wf = true) : Try.prog.keyLits (m + 1 + 1) 52 [.int .i64 a, .int .u64 b] = some [.int .i64 a, .int .u64 b] := by
  rw [Program.keyLits.eq_def]
  simp only [Try.underlying52]
  rw [if_pos ⟨by rw [cellsOne]; rfl, by simp⟩]
  simp only [List.mapM_cons, List.mapM_nil, List.drop, List.take, cellsI, cellsU, litI m ha, litU m hb]
  rfl
theorem formOne (a b : Int) : (oneV a b).formed Try.prog 52 = true := by
  unfold Value.formed
  rw [Try.underlying52]
  simp [cellsOne]
theorem keyOne {a b : Int} (ha : (Lit.int .i64 a).wf = true) (hb : (Lit.int .u64 b).wf = true) : keyOf Try.prog 52 (oneV a b) = some (oneK a b) := by
  obtain ⟨m, hm⟩ := sizeTy
  have h1 := litOne m ha hb
  rw [← hm] at h1
  unfold keyOf
  rw [Try.underlying52]
  show (if (Try.prog.keyType 52 && (oneV a b).formed Try.prog 52) = true then (Try.prog.keyLits (Try.prog.types.size + 1) 52 [.int .i64 a, .int .u64 b]).map (fun ls => Lit.string (keyBytes ls)) else none) = _
  rw [keyTyOne, formOne, h1]
  rfl

/-- Block b is a map of at most n entries that answers f. -/
def MapC (w : World) (b n : Nat) (f : Int → Int → Int) : Prop :=
  ∃ D : DataW Unit, IsMap D ∧ w.ownsMap Try.prog 52 (plainElem Try.prog 3) b n D ∧ ∀ x y : Int, (Lit.int .i64 x).wf = true → (Lit.int .u64 y).wf = true → D.atKey (oneK x y) (.lit (.int .i64 0)) = .lit (.int .i64 (f x y))
def upd2 (f : Int → Int → Int) (x y v : Int) : Int → Int → Int := fun p q => if p = x ∧ q = y then v else f p q

theorem MapC.made (w : World) : MapC (w.alloc (.map #[] 0)) w.heap.size 0 (fun _ _ => 0) :=
  ⟨.map [], ⟨[], rfl⟩, World.ownsMap_made _ _ _ _, fun _ _ _ _ => rfl⟩
theorem MapC.kept {w w' : World} {b n : Nat} {row : Option Nat} {f : Int → Int → Int} (h : MapC w b n f) (hg : w.grownBy w' row) (hne : some b ≠ row) : MapC w' b n f := by
  obtain ⟨D, hi, ho, ha⟩ := h
  exact ⟨D, hi, ho.kept hg hne, ha⟩
theorem MapC.below {w w' : World} {b n : Nat} {f : Int → Int → Int} (h : MapC w b n f) (hb : Below w.heap.size w w') : MapC w' b n f :=
  h.kept (row := none) ⟨hb.os, hb.tape, hb.output, hb.size, fun k hk _ => hb.block k hk⟩ (by simp)
theorem MapC.alloc {w : World} {b n : Nat} {f : Int → Int → Int} (h : MapC w b n f) (o : Obj) : MapC (w.alloc o) b n f := by
  obtain ⟨D, hi, ho, ha⟩ := h
  exact ⟨D, hi, ho.alloc o, ha⟩
theorem MapC.drew {w : World} {b n : Nat} {f : Int → Int → Int} (h : MapC w b n f) : MapC w.drew b n f := h
theorem MapC.mono {w : World} {b n n' : Nat} {f : Int → Int → Int} (h : MapC w b n f) (hn : n ≤ n') : MapC w b n' f := by
  obtain ⟨D, hi, ho, ha⟩ := h
  exact ⟨D, hi, ho.mono hn, ha⟩
theorem MapC.lt {w : World} {b n : Nat} {f : Int → Int → Int} (h : MapC w b n f) : b < w.heap.size := by
  obtain ⟨D, hi, ho, ha⟩ := h
  exact ho.lt

theorem MapC.look {w : World} {b n : Nat} {f : Int → Int → Int} (h : MapC w b n f) (x y : Int) (hx : (Lit.int .i64 x).wf = true) (hy : (Lit.int .u64 y).wf = true) :
    (Instr.lookup 50 (.map (some b)) (oneV x y) false).run Try.prog w = .ok (.int .i64 (f x y)) w := by
  obtain ⟨D, hi, ho, ha⟩ := h
  obtain ⟨c, hrun, hat, _⟩ := ho.lookup_int lawOne Try.underlying50 Try.underlying3 (zeroInt w) (keyOne hx hy)
  rw [hrun]
  have e := (ha x y hx hy).symm.trans hat
  have e' : f x y = c := by simpa using e
  rw [e']

theorem put_upd {D : DataW Unit} {f : Int → Int → Int} (hi : IsMap D) (ha : ∀ x y : Int, (Lit.int .i64 x).wf = true → (Lit.int .u64 y).wf = true → D.atKey (oneK x y) (.lit (.int .i64 0)) = .lit (.int .i64 (f x y)))
    {x y : Int} (hx : (Lit.int .i64 x).wf = true) (hy : (Lit.int .u64 y).wf = true) (v : Int) :
    ∀ p q : Int, (Lit.int .i64 p).wf = true → (Lit.int .u64 q).wf = true → (D.put (oneK x y) (.lit (.int .i64 v))).atKey (oneK p q) (.lit (.int .i64 0)) = .lit (.int .i64 (upd2 f x y v p q)) := by
  intro p q hp hq
  unfold upd2
  by_cases h : p = x ∧ q = y
  · obtain ⟨rfl, rfl⟩ := h
    rw [if_pos ⟨rfl, rfl⟩]
    exact atKey_put_same hi (lawOne.key (keyOne hx hy)) _ _
  · rw [if_neg h, atKey_put_other (fun e => h (by
      have := lawOne.inj (keyOne hp hq) (e ▸ keyOne hx hy)
      simpa using this)) _ _]
    exact ha p q hp hq

theorem run_unique {α : Type} {r : Result α} {a a' : α} {w w' : World} (h : r = .ok a w) (h' : r = .ok a' w') : a = a' ∧ w = w' := by
  rw [h] at h'; injection h' with h1 h2; exact ⟨h1, h2⟩

theorem setBlock_grown {w : World} {b c c' : Nat} {es es' : Array MapEntry} (hb : w.heap[b]? = some (.map es c)) : w.grownBy (setBlock w b (.map es' c')) (some b) :=
  ⟨rfl, rfl, rfl, by simp [setBlock], fun i _ hi => ChangeMaps.heap_setBlock_other hb _ (fun e => hi (by rw [e]))⟩
theorem setBlock_twice (w : World) (b : Nat) (o o' : Obj) : setBlock (setBlock w b o) b o' = setBlock w b o' := by
  simp [setBlock]

theorem MapC.entry {w : World} {b n : Nat} {f : Int → Int → Int} (h : MapC w b n f) (hn : n < maxLen) (x y : Int) (hx : (Lit.int .i64 x).wf = true) (hy : (Lit.int .u64 y).wf = true) :
    ∃ (st : Nat) (w1 : World), (Instr.mapEntry 50 (.map (some b)) (oneV x y)).run Try.prog w = .ok (.tuple #[.int .i64 (f x y), goInt st]) w1 ∧ MapC w1 b (n + 1) f ∧ w.grownBy w1 (some b) ∧
      ∀ v : Int, (Lit.int .i64 v).wf = true → ∃ w3, (Instr.entryStore 50 (.map (some b)) (goInt st) (.int .i64 v)).run Try.prog w1 = .ok () w3 ∧ MapC w3 b (n + 1) (upd2 f x y v) ∧ w1.grownBy w3 (some b) := by
  obtain ⟨D, hi, ho, ha⟩ := h
  have hkey := keyOne hx hy
  have ht := Try.underlying50
  obtain ⟨c, hrun, hat, _⟩ := ho.lookup_int lawOne ht Try.underlying3 (zeroInt w) hkey
  have e : f x y = c := by simpa using (ha x y hx hy).symm.trans hat
  have ho' := ho
  obtain ⟨es, clock, hb, F, hs, hD⟩ := ho'
  obtain ⟨s1, s2, _⟩ := F.stamped
  rcases lawOne.find w hkey es.toList F.keys with ⟨h1, h2⟩ | ⟨j, e0, h1, h2, h3⟩
  · have hc : c = 0 := by
      have : (Instr.lookup 50 (.map (some b)) (oneV x y) false).run Try.prog w = .ok (.int .i64 0) w := by
        simp [Instr.lookup, run_underlying ht, MapKept.run_getObj_map hb, lawOne.check w es.isEmpty hkey, h1, zeroInt w, Result.andThen]
      have h9 := (run_unique hrun this).1
      simpa using h9
    have e0 : f x y = 0 := e.trans hc
    have hU : ∀ v : Int, (Instr.mapUpdate 50 (.map (some b)) (oneV x y) (.int .i64 v)).run Try.prog w = .ok () (setBlock w b (.map (es.push ⟨oneV x y, .int .i64 v, clock⟩) (clock + 1))) := fun v => by
      simp [Instr.mapUpdate, run_underlying ht, MapKept.run_getObj_map hb, lawOne.check w false hkey, h1, MapKept.run_setObj_map _ hb, Result.andThen, setBlock]
    have hM : ∀ v : Int, (Lit.int .i64 v).wf = true → MapC (setBlock w b (.map (es.push ⟨oneV x y, .int .i64 v, clock⟩) (clock + 1))) b (n + 1) (upd2 f x y v) := fun v hv => by
      obtain ⟨w', hr, hw, _⟩ := ho.update lawOne ht hn hkey (plainElem_int Try.underlying3 hv)
      obtain ⟨_, rfl⟩ := run_unique (hU v) hr
      exact ⟨_, hi.put _ _, hw, put_upd hi ha hx hy v⟩
    refine ⟨clock, setBlock w b (.map (es.push ⟨oneV x y, .int .i64 0, clock⟩) (clock + 1)), ?_, ?_, setBlock_grown hb, ?_⟩
    · rw [e0]
      simp [Instr.mapEntry, run_underlying ht, MapKept.run_getObj_map hb, lawOne.check w false hkey, h1, MapKept.run_setObj_map _ hb, Result.andThen, setBlock]
    · have h9 := hM 0 (by decide)
      have h10 : upd2 f x y 0 = f := by
        funext p q
        unfold upd2
        by_cases h : p = x ∧ q = y
        · rw [if_pos h, h.1, h.2, e0]
        · rw [if_neg h]
      rwa [h10] at h9
    · intro v hv
      have hw2 : (setBlock w b (.map (es.push ⟨oneV x y, .int .i64 0, clock⟩) (clock + 1))).heap[b]? = some (.map (es.push ⟨oneV x y, .int .i64 0, clock⟩) (clock + 1)) := ChangeMaps.heap_setBlock_same hb _
      refine ⟨setBlock (setBlock w b (.map (es.push ⟨oneV x y, .int .i64 0, clock⟩) (clock + 1))) b (.map (es.push ⟨oneV x y, .int .i64 v, clock⟩) (clock + 1)), ?_, by rw [setBlock_twice]; exact hM v hv, setBlock_grown hw2⟩
      have hidx : (es.push ⟨oneV x y, .int .i64 0, clock⟩).findIdx? (fun e => ((e.born : Nat) : Int) == ((clock : Nat) : Int)) = some es.size := by
        rw [WideElems.findIdx_arr]
        have := WideElems.findIdx_born (l := (es.push ⟨oneV x y, .int .i64 0, clock⟩).toList) (j := es.size) (e0 := ⟨oneV x y, .int .i64 0, clock⟩) (by
          simp only [Array.toList_push, List.map_append, List.map_cons, List.map_nil]
          refine List.nodup_append.2 ⟨s2, by simp, fun a ha' c' hc' e1 => ?_⟩
          simp only [List.mem_singleton] at hc'
          obtain ⟨z, hz, rfl⟩ := List.mem_map.1 ha'
          have := s1 z hz
          omega) (by simp)
        exact this
      have hmod : (es.push ⟨oneV x y, .int .i64 0, clock⟩).modify es.size (fun e => { e with val := .int .i64 v }) = es.push ⟨oneV x y, .int .i64 v, clock⟩ := by
        apply Array.ext'
        rw [Array.toList_modify, Array.toList_push, Array.toList_push, ← Array.length_toList, WideElems.modify_last]
      simp [Instr.entryStore, MapKept.run_getObj_map hw2, asInt, asIntOf, goInt, hidx, hmod, MapKept.run_setObj_map _ hw2, Result.andThen]
      simp [setBlock]
  · have hj : es[j]? = some e0 := by simpa using h2
    have hc : e0.val = .int .i64 c := by
      have : (Instr.lookup 50 (.map (some b)) (oneV x y) false).run Try.prog w = .ok e0.val w := by
        simp [Instr.lookup, run_underlying ht, MapKept.run_getObj_map hb, lawOne.check w es.isEmpty hkey, h1, Result.andThen]
      exact (run_unique this hrun).1
    have hsame : es.modify j (fun e => { e with key := oneV x y }) = es := by
      apply Array.ext'
      rw [Array.toList_modify, ChangeMaps.modify_eq_set _ _ _ _ h2]
      have : ({ e0 with key := oneV x y } : MapEntry) = e0 := by rw [← h3]
      rw [this]
      exact WideElems.set_self _ _ _ h2
    have hw2 : (setBlock w b (.map es clock)).heap[b]? = some (.map es clock) := ChangeMaps.heap_setBlock_same hb _
    refine ⟨e0.born, setBlock w b (.map es clock), ?_, ⟨D, hi, ⟨es, clock, hw2, F, by omega, hD⟩, ha⟩, setBlock_grown hb, ?_⟩
    · rw [e, ← hc]
      simp [Instr.mapEntry, run_underlying ht, MapKept.run_getObj_map hb, lawOne.check w false hkey, h1, hj, h3, lawOne.stays w hkey, hsame, MapKept.run_setObj_map _ hb, Result.andThen, setBlock]
    · intro v hv
      have hU : (Instr.mapUpdate 50 (.map (some b)) (oneV x y) (.int .i64 v)).run Try.prog w = .ok () (setBlock w b (.map (es.modify j (fun e' => { e' with key := oneV x y, val := .int .i64 v })) clock)) := by
        simp [Instr.mapUpdate, run_underlying ht, MapKept.run_getObj_map hb, lawOne.check w false hkey, h1, hj, h3, lawOne.stays w hkey, MapKept.run_setObj_map _ hb, Result.andThen, setBlock]
      obtain ⟨w', hr, hw, _⟩ := ho.update lawOne ht hn hkey (plainElem_int Try.underlying3 hv)
      obtain ⟨_, rfl⟩ := run_unique hU hr
      refine ⟨setBlock (setBlock w b (.map es clock)) b (.map (es.modify j (fun e' => { e' with key := oneV x y, val := .int .i64 v })) clock), ?_, by rw [setBlock_twice]; exact ⟨_, hi.put _ _, hw, put_upd hi ha hx hy v⟩, setBlock_grown hw2⟩
      have hidx : es.findIdx? (fun e => ((e.born : Nat) : Int) == ((e0.born : Nat) : Int)) = some j := by
        rw [WideElems.findIdx_arr]
        exact WideElems.findIdx_born s2 h2
      have hmod : es.modify j (fun e => { e with val := .int .i64 v }) = es.modify j (fun e' => { e' with key := oneV x y, val := .int .i64 v }) := by
        apply Array.ext'
        rw [Array.toList_modify, Array.toList_modify, ChangeMaps.modify_eq_set _ _ _ _ h2, ChangeMaps.modify_eq_set _ _ _ _ h2, ← h3]
      simp [Instr.entryStore, MapKept.run_getObj_map hw2, asInt, asIntOf, goInt, hidx, hmod, MapKept.run_setObj_map _ hw2, Result.andThen]
      simp [setBlock]
end Go.Proofs.Ythpgoglhccoeeaa
