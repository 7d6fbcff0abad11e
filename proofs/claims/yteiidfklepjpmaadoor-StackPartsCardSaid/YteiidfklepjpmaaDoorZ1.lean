/-
  Words for memory: a slice that reads as a list of cells; a block that is known whole; append onto a row of the call's own.
-/
import Derived.Test.YteiidfklepjpmaaDoorRows
import Derived.WalkKit
import Derived.Deep.AppendLies
import Derived.Deep.Draws
import Derived.Laws.OwnMore
import Derived.Laws.Rows
import Derived.Maps.AppendAt
import Derived.RegionTactic
import Derived.OwnWalk
import Derived.Deep.LoopGhost
import Derived.Deep.RegionWith
import Derived.Lib.SliceRun
import Derived.Lib.AppendZeros
import Derived.Deep.MidRow
import Derived.ArgAppend
import Derived.Test.YteiidfklepjpmaaDoorTie
import Derived.Test.YteiidfklepjpmaaDoorCards
import Derived.ProofKit
import Derived.LaidMore
import Derived.OpenShut
import Derived.Stop.Joined
import Derived.SevenTiedAt
import Derived.Lib.LaidTab
import Derived.Lib.Fields
import Derived.Lib.FieldsLaws
import Derived.Lib.SplitLaws
import Derived.Lib.Walk
import Derived.Laws.Strings3
import Derived.Deep.OwnRows
import Derived.Deep.CutBlock
import Derived.Deep.QuietTactic
import Derived.BigQuiet
namespace Go.Proofs.YteiidfklepjpmaaDoor
open Go.RowKit

/-- A fact kept from the walk's simp; '.out' gives it back. -/
theorem hide {p : Prop} (h : p) : Hid p := h
theorem unhide {p : Prop} (h : Hid p) : p := h

theorem below_drewN {B : Nat} {a w : World} (h : Below B a w) (n : Nat) : Below B a (w.drewN n) := ⟨h.os, h.tape, h.output, h.size, h.block⟩

theorem quiet_left {P : Program} {f : FuncId} {args : Array Value} {w : World} {n : Nat} {v : Value}
    (h : Calls P f args (w.drewN n) fun e w' => e = .returned v ∧ w.drewN n = w') : Calls P f args (w.drewN n) fun e w'' => e = .returned v ∧ ∃ m, w'' = w.drewN m :=
  h.mono fun _ _ ⟨he, hm⟩ => ⟨he, n, hm.symm⟩
theorem keepCell {w w' : World} (hb : Below w.heap.size w w') {a : Addr} {v : Value} (h : w.cell? a = some v) : w'.cell? a = some v := (hb.cell (World.block_lt_of_cell? w a h)).trans h

/-- A function value whose function is known is entered. -/
theorem run_enter {P : Program} {f : FuncId} {fn : Func} (hf : P.funcs[f]? = some fn) (hname : fn.name ≠ "runtime.NumGoroutine") (hb : fn.body ≠ none) (args : Array Value) (w : World) :
    (callFunc f args).run P w = .ok (.enter f args) w := by
  simp [callFunc, hf, hname, hb, go_sem]

theorem bcell {W w1 : World} (hb : Below W.heap.size W w1) : (∀ b o, b < W.heap.size → w1.cell? ⟨b, o, none⟩ = W.cell? ⟨b, o, none⟩) ∧ (∀ b o, b < W.heap.size → w1.frozen? ⟨b, o, none⟩ = W.frozen? ⟨b, o, none⟩) :=
  ⟨fun b o h => hb.cell (p := ⟨b, o, none⟩) h, fun b o h => hb.frozen (p := ⟨b, o, none⟩) h⟩

theorem block_of_add (a : Addr) (n : Nat) : (a.add n).block = a.block := by unfold Addr.add; split <;> rfl
theorem add_of_add (a : Addr) (i j : Nat) : (a.add i).add j = a.add (i + j) := by
  unfold Addr.add
  by_cases hi : i = 0 <;> by_cases hj : j = 0 <;> simp [hi, hj, Nat.add_assoc]

def Reads (w : World) (B size : Nat) (A : Option Addr) (n : Nat) (xs : List Value) : Prop :=
  xs.length = n * size ∧ (0 < n → ∃ ad, A = some ad ∧ ad.block < B ∧ ∀ j u, xs[j]? = some u → w.cell? (ad.add j) = some u)

section
variable {w w' : World} {B B' size n : Nat} {A : Option Addr} {xs : List Value}
theorem Reads.none_ : Reads w B size A 0 [] := ⟨by simp, fun h => absurd h (by omega)⟩
theorem Reads.at_ {k : Nat} (h : Reads w B 1 A n xs) (hk : k < n) : ∃ ad u, A = some ad ∧ ad.block < B ∧ xs[k]? = some u ∧ w.cell? (ad.add k) = some u := by
  obtain ⟨ad, e, hb, hc⟩ := h.2 (by omega)
  have hl : k < xs.length := by have := h.1; omega
  exact ⟨ad, xs[k], e, hb, List.getElem?_eq_getElem hl, hc k _ (List.getElem?_eq_getElem hl)⟩
theorem Reads.keep (h : Reads w B size A n xs) (hk : ∀ p : Addr, p.block < B → w'.cell? p = w.cell? p) : Reads w' B size A n xs :=
  ⟨h.1, fun hn => by
    obtain ⟨ad, e, hb, hc⟩ := h.2 hn
    exact ⟨ad, e, hb, fun j u hu => (hk _ (by rw [block_of_add]; exact hb)).trans (hc j u hu)⟩⟩
theorem Reads.more (h : Reads w B size A n xs) (hB : B ≤ B') : Reads w B' size A n xs :=
  ⟨h.1, fun hn => by
    obtain ⟨ad, e, hb, hc⟩ := h.2 hn
    exact ⟨ad, e, by omega, hc⟩⟩
theorem Reads.below (h : Reads w B size A n xs) (hb : Below B w w') : Reads w' B size A n xs := h.keep fun _ hp => hb.cell hp
theorem Reads.drew (h : Reads w B size A n xs) : Reads w.drew B size A n xs := h
theorem Reads.drewN (h : Reads w B size A n xs) (k : Nat) : Reads (w.drewN k) B size A n xs := h
theorem Reads.alloc (h : Reads w B size A n xs) (hB : B ≤ w.heap.size) (o : Obj) : Reads (w.alloc o) B size A n xs := h.keep fun p hp => World.cell?_alloc_lt w o p (by omega)
theorem Reads.setCell (h : Reads w B size A n xs) {p : Addr} (hB : B ≤ p.block) (u : Value) : Reads (w.setCell p u) B size A n xs :=
  h.keep fun q hq => World.cell?_setCell_other w p q u (fun e => by subst e; omega)
theorem Reads.grown (h : Reads w B size A n xs) {row : Option Nat} (hg : w.grownBy w' row) (hB : B ≤ w.heap.size) (hr : ∀ g, row = some g → B ≤ g) : Reads w' B size A n xs :=
  h.keep fun p hp => World.cell?_of_block (hg.block p.block (by omega) (fun e => by have := hr _ e.symm; omega))
theorem Reads.cut (h : Reads w B size A n xs) {k cap : Nat} (hk : k ≤ n) (hc : n ≤ cap) :
    Reads w B size (if cap = k then A else A.map (·.add (k * size))) (n - k) (xs.drop (k * size)) := by
  refine ⟨by rw [List.length_drop, h.1, Nat.sub_mul], fun hn => ?_⟩
  obtain ⟨ad, rfl, hb, hcell⟩ := h.2 (by omega)
  rw [if_neg (by omega)]
  refine ⟨ad.add (k * size), rfl, by rw [block_of_add]; exact hb, fun j u hu => ?_⟩
  rw [add_of_add]
  exact hcell _ u (by rw [← hu, List.getElem?_drop])
theorem Reads.of_own {base : Nat} {e : TypeId} {c : Nat} (h : w.ownsRow base e size (.slice A n c) n xs) : Reads w w.heap.size size A n xs := by
  refine ⟨h.1, fun hn => ?_⟩
  obtain ⟨g, cap, hv, _, hlt⟩ := h.form hn
  have hA : A = some ⟨g, 0, none⟩ := by injection hv
  subst hA
  exact ⟨_, rfl, hlt, h.cells (g := g) rfl⟩
end

def Blk (w : World) (g : Nat) (t : TypeId) (cs : Array Value) : Prop := w.heap[g]? = some (.cells cs t (0, 0))

section
variable {w w' : World} {g : Nat} {t : TypeId} {cs : Array Value}
theorem Blk.lt (h : Blk w g t cs) : g < w.heap.size := by
  rcases Nat.lt_or_ge g w.heap.size with hlt | hge
  · exact hlt
  · unfold Blk at h; rw [Array.getElem?_eq_none hge] at h; cases h
theorem Blk.cell (h : Blk w g t cs) (i : Nat) : w.cell? ⟨g, i, none⟩ = cs[i]? := cell_of_row w g i cs t (0, 0) h
theorem Blk.frozen (h : Blk w g t cs) (i : Nat) : w.frozen? ⟨g, i, none⟩ = false := by
  unfold Blk at h
  simp [World.frozen?, h]
theorem Blk.new (w : World) (t : TypeId) (cs : Array Value) : Blk (w.alloc (.cells cs t)) w.heap.size t cs := heap_alloc_new w _
theorem Blk.drew (h : Blk w g t cs) : Blk w.drew g t cs := h
theorem Blk.drewN (h : Blk w g t cs) (n : Nat) : Blk (w.drewN n) g t cs := h
theorem Blk.alloc (h : Blk w g t cs) (o : Obj) : Blk (w.alloc o) g t cs := (Below.heap_alloc w o g h.lt).trans h
theorem Blk.set_ (h : Blk w g t cs) (i : Nat) (u : Value) : Blk (w.setCell ⟨g, i, none⟩ u) g t (cs.setIfInBounds i u) := by
  unfold Blk at h ⊢
  simp [World.setCell, Array.getElem?_modify, h]
theorem Blk.far (h : Blk w g t cs) {p : Addr} (hp : g ≠ p.block) (u : Value) : Blk (w.setCell p u) g t cs := (Below.heap_setCell w p u g hp).trans h
theorem Blk.below {B : Nat} (h : Blk w g t cs) (hb : Below B w w') (hg : g < B) : Blk w' g t cs := (hb.block g hg).trans h
theorem Blk.grown {row : Option Nat} (h : Blk w g t cs) (hb : w.grownBy w' row) (hg : some g ≠ row) : Blk w' g t cs := (hb.block g h.lt hg).trans h
theorem Blk.ne_ {g' : Nat} {t' : TypeId} {cs' : Array Value} (h : Blk w g t cs) (h' : Blk w g' t' cs') (hne : t ≠ t') : g ≠ g' := by
  rintro rfl
  unfold Blk at h h'
  rw [h] at h'
  injection h' with h'
  injection h' with _ ht
  exact hne ht
theorem own_blk_ne {base : Nat} {e : TypeId} {size n : Nat} {v : Value} {xs : List Value} (h : w.ownsRow base e size v n xs) (hg : Blk w g t cs) (hne : e ≠ t) : v.ownBlock ≠ some g := by
  rcases h.2 with ⟨rfl, _⟩ | ⟨g', cap, cur, rfl, _, hh, _⟩
  · simp [Value.ownBlock]
  · intro he
    have : g' = g := by simpa [Value.ownBlock] using he
    subst this
    exact Blk.ne_ (t := e) hh hg hne rfl
end

section
variable {P : Program} (w : World)

theorem run_append_of_nil (base : Nat) (t ty e : TypeId) (i : TypeInfo) (size : Nat) (ht : P.underlying t = some (.slice e)) (hi : P.info? e = some i)
    (v : Value) (n : Nat) (xs : List Value) (hown : w.ownsRow base e size v n xs) (c : Nat) : (Builtin.append_ #[t, t] ty #[v, .slice none 0 c]).run P w = .ok v w := by
  rcases hown.2 with ⟨rfl, rfl⟩ | ⟨g, cap, cur, rfl, _, _, hnc, _⟩
  · simp [Builtin.append_, run_underlying ht, sizeOf, typeInfo, hi, Builtin.lenOf, Builtin.firstCells]
  · simp [Builtin.append_, run_underlying ht, sizeOf, typeInfo, hi, Builtin.lenOf, Builtin.firstCells, hnc, storeCells]

theorem run_append_any (base : Nat) (t ty e : TypeId) (i : TypeInfo) (z : Value) (size bytes : Nat) (ht : P.underlying t = some (.slice e)) (hi : P.info? e = some i) (hz : i.zero = some z)
    (hsize : i.size = size) (hby : i.bytes = bytes) (hzs : z.cells.size = size) (hsz : 0 < size)
    (v : Value) (n : Nat) (xs : List Value) (hown : w.ownsRow base e size v n xs)
    (B : Nat) (A : Option Addr) (m c : Nat) (news : List Value) (hr : Reads w B size A m news) (h1 : ∀ u ∈ news, u.oneCell' = true)
    (h63 : n + m ≤ maxLen) (hbytes : (n + m) * bytes ≤ 140737488355328) (hbase : base ≤ w.heap.size) :
    ∃ v' w', (Builtin.append_ #[t, t] ty #[v, .slice A m c]).run P w = .ok v' w' ∧ w'.ownsRow base e size v' (n + m) (xs ++ news) ∧ w.grownBy w' v.ownBlock ∧
      (v'.ownBlock = v.ownBlock ∨ v'.ownBlock = some w.heap.size) := by
  rcases A with _ | ad
  · have hm : m = 0 := by
      rcases Nat.eq_zero_or_pos m with h0 | h0
      · exact h0
      · obtain ⟨ad, h, _⟩ := hr.2 h0
        cases h
    subst hm
    have hn : news = [] := List.eq_nil_of_length_eq_zero (by simpa using hr.1)
    subst hn
    exact ⟨v, w, run_append_of_nil w base t ty e i size ht hi v n xs hown c, by simpa using hown, World.grownBy.refl w _, .inl rfl⟩
  · have hcells : ∀ j u, news[j]? = some u → w.cell? (ad.add j) = some u := by
      intro j u hu
      rcases Nat.eq_zero_or_pos m with h0 | h0
      · subst h0
        have hn : news = [] := List.eq_nil_of_length_eq_zero (by simpa using hr.1)
        subst hn
        simp at hu
      · obtain ⟨ad', h, _, hc⟩ := hr.2 h0
        injection h with h
        subst h
        exact hc j u hu
    obtain ⟨v', w', hrun, h2, h3, _, h5⟩ := run_append_own_at (P := P) w base t ty e i z size bytes ht hi hz hsize hby hzs hsz v n xs hown ad m c news hr.1 hcells h1 h63 hbytes hbase
    exact ⟨v', w', hrun, h2, h3, h5⟩

theorem wp_append_any {o : Oper} {a : Act} {K : Act → World → Prop} {Q : Exit → Act → World → Prop} (s x : Operand) (t : TypeId)
    (ho : o.op = .call { callee := .builtin .append, args := #[s, x], argTypes := #[t, t] })
    (base : Nat) (e : TypeId) (i : TypeInfo) (z : Value) (size bytes : Nat) (ht : P.underlying t = some (.slice e)) (hi : P.info? e = some i) (hz : i.zero = some z)
    (hsize : i.size = size) (hby : i.bytes = bytes) (hzs : z.cells.size = size) (hsz : 0 < size)
    (v : Value) (n : Nat) (xs : List Value) (hs : a.eval s = v) (hown : w.ownsRow base e size v n xs)
    (B : Nat) (A : Option Addr) (m c : Nat) (news : List Value) (hx : a.eval x = .slice A m c) (hr : Reads w B size A m news) (h1 : ∀ u ∈ news, u.oneCell' = true)
    (h63 : n + m ≤ maxLen) (hbytes : (n + m) * bytes ≤ 140737488355328) (hbase : base ≤ w.heap.size)
    (h : ∀ v' w', w'.ownsRow base e size v' (n + m) (xs ++ news) → w.grownBy w' v.ownBlock → (v'.ownBlock = v.ownBlock ∨ v'.ownBlock = some w.heap.size) → K (a.put o.dst v') w') : o.wp P a w K Q := by
  obtain ⟨v', w', hrun, h2, h3, h4⟩ := run_append_any (P := P) w base t o.type e i z size bytes ht hi hz hsize hby hzs hsz v n xs hown B A m c news hr h1 h63 hbytes hbase
  unfold Oper.wp execOp
  simp only [ho, resolve, invoke, builtin, Sem.run_bind, Sem.run_pure, Result.andThen_ok, List.map_toArray, List.map_cons, List.map_nil, hs, hx, hrun]
  exact h v' w' h2 h3 h4

theorem wpList_append_any {ops : Array Oper} {rest : List Oper} {o : Oper} {a : Act} {Q : Exit → Act → World → Prop} (hgd : o.guard = none) (s x : Operand) (t : TypeId)
    (ho : o.op = .call { callee := .builtin .append, args := #[s, x], argTypes := #[t, t] })
    (base : Nat) (e : TypeId) (i : TypeInfo) (z : Value) (size bytes : Nat) (ht : P.underlying t = some (.slice e)) (hi : P.info? e = some i) (hz : i.zero = some z)
    (hsize : i.size = size) (hby : i.bytes = bytes) (hzs : z.cells.size = size) (hsz : 0 < size)
    (v : Value) (n : Nat) (xs : List Value) (hs : a.eval s = v) (hown : w.ownsRow base e size v n xs)
    (B : Nat) (A : Option Addr) (m c : Nat) (news : List Value) (hx : a.eval x = .slice A m c) (hr : Reads w B size A m news) (h1 : ∀ u ∈ news, u.oneCell' = true)
    (h63 : n + m ≤ maxLen) (hbytes : (n + m) * bytes ≤ 140737488355328) (hbase : base ≤ w.heap.size)
    (h : ∀ v' w', w'.ownsRow base e size v' (n + m) (xs ++ news) → w.grownBy w' v.ownBlock → (v'.ownBlock = v.ownBlock ∨ v'.ownBlock = some w.heap.size) → wpList P ops Q rest (a.put o.dst v') w') : wpList P ops Q (o :: rest) a w :=
  wpList_plain hgd fun _ hK => wp_append_any w s x t ho base e i z size bytes ht hi hz hsize hby hzs hsz v n xs hs hown B A m c news hx hr h1 h63 hbytes hbase fun v' w' h2 h3 h4 => hK _ _ (h v' w' h2 h3 h4)

theorem step_append_any {ops : Array Oper} {o : Oper} {a : Act} {K : Act → World → Prop} {Q : Exit → Act → World → Prop} {E : Prop} (hgd : o.guard = none) (s x : Operand) (t : TypeId)
    (ho : o.op = .call { callee := .builtin .append, args := #[s, x], argTypes := #[t, t] })
    (base : Nat) (e : TypeId) (i : TypeInfo) (z : Value) (size bytes : Nat) (ht : P.underlying t = some (.slice e)) (hi : P.info? e = some i) (hz : i.zero = some z)
    (hsize : i.size = size) (hby : i.bytes = bytes) (hzs : z.cells.size = size) (hsz : 0 < size)
    (v : Value) (n : Nat) (xs : List Value) (hs : a.eval s = v) (hown : w.ownsRow base e size v n xs)
    (B : Nat) (A : Option Addr) (m c : Nat) (news : List Value) (hx : a.eval x = .slice A m c) (hr : Reads w B size A m news) (h1 : ∀ u ∈ news, u.oneCell' = true)
    (h63 : n + m ≤ maxLen) (hbytes : (n + m) * bytes ≤ 140737488355328) (hbase : base ≤ w.heap.size)
    (h : ∀ v' w', w'.ownsRow base e size v' (n + m) (xs ++ news) → w.grownBy w' v.ownBlock → (v'.ownBlock = v.ownBlock ∨ v'.ownBlock = some w.heap.size) → K (a.put o.dst v') w') :
    if Region.wanted o (yielded ops a.tmps) = true then Oper.wp P o a w K Q else E := by
  have hw : Region.wanted o (yielded ops a.tmps) = true := by simp [Region.wanted, hgd]
  rw [if_pos hw]
  exact wp_append_any w s x t ho base e i z size bytes ht hi hz hsize hby hzs hsz v n xs hs hown B A m c news hx hr h1 h63 hbytes hbase h
end

theorem Reads.new (w : World) (cs : List Value) (t : TypeId) (n s : Nat) (h : cs.length = n * s) : Reads (w.alloc (.cells cs.toArray t)) (w.heap.size + 1) s (some ⟨w.heap.size, 0, none⟩) n cs := by
  refine ⟨h, fun _ => ⟨_, rfl, by simp, fun j u hu => ?_⟩⟩
  rw [Addr.add_lit]
  have := cell_of_row (w.alloc (.cells cs.toArray t)) w.heap.size j cs.toArray t (0, 0) (heap_alloc_new w _)
  simp [this, hu]

theorem Reads.blk {w : World} {g : Nat} {t : TypeId} {cs : Array Value} (h : Blk w g t cs) (n s : Nat) (hn : cs.size = n * s) : Reads w (g + 1) s (some ⟨g, 0, none⟩) n cs.toList := by
  refine ⟨by simpa using hn, fun _ => ⟨_, rfl, by simp, fun j u hu => ?_⟩⟩
  rw [Addr.add_lit]
  have := h.cell j
  simpa [this] using hu

/-- What a row of the reading holds, field by field, at the addresses that the walk spells. -/
theorem Reads.row {w : World} {B s n k : Nat} {A : Option Addr} {xs : List Value} (h : Reads w B s A n xs) (hk : k < n) : ∃ ad, A = some ad ∧ ad.block < B ∧ (0 < s → w.cell? (ad.add (k * s)) = xs[k * s]?) ∧
    ∀ j, 0 < j → j < s → w.cell? ⟨(ad.add (k * s)).block, (ad.add (k * s)).off + j, none⟩ = xs[k * s + j]? := by
  obtain ⟨ad, rfl, hb, hc⟩ := h.2 (by omega)
  have hlen : ∀ j, j < s → k * s + j < xs.length := fun j hj => by
    rw [h.1]
    have h1 : k * s + s ≤ n * s := by
      have := Nat.mul_le_mul_right s (show k + 1 ≤ n from hk)
      rwa [Nat.add_mul, Nat.one_mul] at this
    omega
  refine ⟨ad, rfl, hb, fun hs => ?_, fun j h0 hj => ?_⟩
  · have := hlen 0 hs
    rw [List.getElem?_eq_getElem (by simpa using this)]
    exact hc _ _ (List.getElem?_eq_getElem (by simpa using this))
  · have := hlen j hj
    rw [List.getElem?_eq_getElem this]
    have h2 := hc _ _ (List.getElem?_eq_getElem this)
    rw [← h2, ← add_of_add]
    generalize ad.add (k * s) = q
    unfold Addr.add
    rw [if_neg (by omega)]

theorem own_reads {w : World} {B : Nat} {e : TypeId} {s n : Nat} {xs : List Value} {v : Value} (h : w.ownsRow B e s v n xs) : ∃ A c, v = .slice A n c ∧ Reads w w.heap.size s A n xs := by
  rcases h.2 with ⟨rfl, rfl⟩ | ⟨g, cap, cur, rfl, _⟩
  · have : xs = [] := List.eq_nil_of_length_eq_zero (by simpa using h.1)
    subst this
    exact ⟨none, 0, rfl, Reads.none_⟩
  · exact ⟨_, _, rfl, Reads.of_own h⟩
/-- The own blocks of two rows differ (or the first owns none). -/
def Apart (v u : Value) : Prop := v.ownBlock = none ∨ v.ownBlock ≠ u.ownBlock
theorem Apart.symm {v u : Value} (h : Apart v u) : Apart u v := by
  unfold Apart at *
  rcases h with h | h
  · by_cases e : u.ownBlock = none
    · exact .inl e
    · exact .inr (by rw [h]; exact e)
  · exact .inr (fun e => h e.symm)
theorem Apart.nil (v : Value) : Apart (.slice none 0 0) v := .inl rfl
theorem Apart.nil' (v : Value) : Apart v (.slice none 0 0) := (Apart.nil v).symm

section
variable {P : Program} {w : World}
/-- The row that was appended to (v became v1) lies apart from every other row that v lay apart from. -/
theorem Apart.grown {B : Nat} {e : TypeId} {s n : Nat} {xs : List Value} {v v1 u : Value} (h : Apart v u) (hu : w.ownsRow B e s u n xs) (hat : v1.ownBlock = v.ownBlock ∨ v1.ownBlock = some w.heap.size) : Apart v1 u := by
  unfold Apart at *
  rcases hat with e | e <;> rw [e]
  · exact h
  · refine .inr (fun e' => ?_)
    have := (hu.lt _ e'.symm).2
    omega
theorem own_kept {w' : World} {B : Nat} {e : TypeId} {s n : Nat} {xs : List Value} {v u : Value} (hu : w.ownsRow B e s u n xs) (hg : w.grownBy w' v.ownBlock) (h : Apart v u) : w'.ownsRow B e s u n xs :=
  hu.kept hg (by rcases h.symm with h | h; exact .inl h; exact .inr h)

theorem run_append_one (base : Nat) (t ty e : TypeId) (i : TypeInfo) (z : Value) (size bytes : Nat) (ht : P.underlying t = some (.slice e)) (hi : P.info? e = some i) (hz : i.zero = some z)
    (hsize : i.size = size) (hby : i.bytes = bytes) (hzs : z.cells.size = size) (hsz : 0 < size) (hb1 : bytes ≤ 1024)
    (v : Value) (n : Nat) (xs : List Value) (hown : w.ownsRow base e size v n xs)
    (g : Nat) (cs : Array Value) (hblk : Blk w g e cs) (hcs : cs.size = size) (h1 : cs.toList.all (·.oneCell') = true)
    (hn : n ≤ 4294967296) (hbase : base ≤ w.heap.size) :
    ∃ A' c' w', (Builtin.append_ #[t, t] ty #[v, .slice (some ⟨g, 0, none⟩) 1 1]).run P w = .ok (.slice A' (n + 1) c') w' ∧ w'.ownsRow base e size (.slice A' (n + 1) c') (n + 1) (xs ++ cs.toList) ∧ w.grownBy w' v.ownBlock ∧
      ((Value.slice A' (n + 1) c').ownBlock = v.ownBlock ∨ (Value.slice A' (n + 1) c').ownBlock = some w.heap.size) := by
  have key := run_append_any w base t ty e i z size bytes ht hi hz hsize hby hzs hsz v n xs hown (g + 1) (some ⟨g, 0, none⟩) 1 1 cs.toList (Reads.blk hblk 1 size (by omega)) (fun u hu => List.all_eq_true.1 h1 u hu)
    (by simp only [maxLen]; omega) (by
      have : (n + 1) * bytes ≤ 4294967297 * 1024 := Nat.mul_le_mul (by omega) hb1
      omega) hbase
  obtain ⟨v', w', h1, h2, h3, h4⟩ := key
  obtain ⟨A, c, rfl, _⟩ := own_reads h2
  exact ⟨A, c, w', h1, h2, h3, h4⟩

theorem wp_append_one {o : Oper} {a : Act} {K : Act → World → Prop} {Q : Exit → Act → World → Prop} (s x : Operand) (t : TypeId)
    (ho : o.op = .call { callee := .builtin .append, args := #[s, x], argTypes := #[t, t] })
    (base : Nat) (e : TypeId) (i : TypeInfo) (z : Value) (size bytes : Nat) (ht : P.underlying t = some (.slice e)) (hi : P.info? e = some i) (hz : i.zero = some z)
    (hsize : i.size = size) (hby : i.bytes = bytes) (hzs : z.cells.size = size) (hsz : 0 < size) (hb1 : bytes ≤ 1024)
    (v : Value) (n : Nat) (xs : List Value) (hs : a.eval s = v) (hown : w.ownsRow base e size v n xs)
    (g : Nat) (cs : Array Value) (hx : a.eval x = .slice (some ⟨g, 0, none⟩) 1 1) (hblk : Blk w g e cs) (hcs : cs.size = size) (h1 : cs.toList.all (·.oneCell') = true)
    (hn : n ≤ 4294967296) (hbase : base ≤ w.heap.size)
    (h : ∀ A' c' w', w'.ownsRow base e size (.slice A' (n + 1) c') (n + 1) (xs ++ cs.toList) → w.grownBy w' v.ownBlock → ((Value.slice A' (n + 1) c').ownBlock = v.ownBlock ∨ (Value.slice A' (n + 1) c').ownBlock = some w.heap.size) → K (a.put o.dst (.slice A' (n + 1) c')) w') : o.wp P a w K Q := by
  obtain ⟨A', c', w', hrun, h2, h3, h4⟩ := run_append_one (P := P) (w := w) base t o.type e i z size bytes ht hi hz hsize hby hzs hsz hb1 v n xs hown g cs hblk hcs h1 hn hbase
  unfold Oper.wp execOp
  simp only [ho, resolve, invoke, builtin, Sem.run_bind, Sem.run_pure, Result.andThen_ok, List.map_toArray, List.map_cons, List.map_nil, hs, hx, hrun]
  exact h A' c' w' h2 h3 h4

theorem wpList_append_one {ops : Array Oper} {rest : List Oper} {o : Oper} {a : Act} {Q : Exit → Act → World → Prop} (hgd : o.guard = none) (s x : Operand) (t : TypeId)
    (ho : o.op = .call { callee := .builtin .append, args := #[s, x], argTypes := #[t, t] })
    (base : Nat) (e : TypeId) (i : TypeInfo) (z : Value) (size bytes : Nat) (ht : P.underlying t = some (.slice e)) (hi : P.info? e = some i) (hz : i.zero = some z)
    (hsize : i.size = size) (hby : i.bytes = bytes) (hzs : z.cells.size = size) (hsz : 0 < size) (hb1 : bytes ≤ 1024)
    (v : Value) (n : Nat) (xs : List Value) (hs : a.eval s = v) (hown : w.ownsRow base e size v n xs)
    (g : Nat) (cs : Array Value) (hx : a.eval x = .slice (some ⟨g, 0, none⟩) 1 1) (hblk : Blk w g e cs) (hcs : cs.size = size) (h1 : cs.toList.all (·.oneCell') = true)
    (hn : n ≤ 4294967296) (hbase : base ≤ w.heap.size)
    (h : ∀ A' c' w', w'.ownsRow base e size (.slice A' (n + 1) c') (n + 1) (xs ++ cs.toList) → w.grownBy w' v.ownBlock → ((Value.slice A' (n + 1) c').ownBlock = v.ownBlock ∨ (Value.slice A' (n + 1) c').ownBlock = some w.heap.size) → wpList P ops Q rest (a.put o.dst (.slice A' (n + 1) c')) w') : wpList P ops Q (o :: rest) a w :=
  wpList_plain hgd fun _ hK => wp_append_one s x t ho base e i z size bytes ht hi hz hsize hby hzs hsz hb1 v n xs hs hown g cs hx hblk hcs h1 hn hbase fun A' c' w' h2 h3 h4 => hK _ _ (h A' c' w' h2 h3 h4)

theorem step_append_one {ops : Array Oper} {o : Oper} {a : Act} {K : Act → World → Prop} {Q : Exit → Act → World → Prop} {E : Prop} (hgd : o.guard = none) (s x : Operand) (t : TypeId)
    (ho : o.op = .call { callee := .builtin .append, args := #[s, x], argTypes := #[t, t] })
    (base : Nat) (e : TypeId) (i : TypeInfo) (z : Value) (size bytes : Nat) (ht : P.underlying t = some (.slice e)) (hi : P.info? e = some i) (hz : i.zero = some z)
    (hsize : i.size = size) (hby : i.bytes = bytes) (hzs : z.cells.size = size) (hsz : 0 < size) (hb1 : bytes ≤ 1024)
    (v : Value) (n : Nat) (xs : List Value) (hs : a.eval s = v) (hown : w.ownsRow base e size v n xs)
    (g : Nat) (cs : Array Value) (hx : a.eval x = .slice (some ⟨g, 0, none⟩) 1 1) (hblk : Blk w g e cs) (hcs : cs.size = size) (h1 : cs.toList.all (·.oneCell') = true)
    (hn : n ≤ 4294967296) (hbase : base ≤ w.heap.size)
    (h : ∀ A' c' w', w'.ownsRow base e size (.slice A' (n + 1) c') (n + 1) (xs ++ cs.toList) → w.grownBy w' v.ownBlock → ((Value.slice A' (n + 1) c').ownBlock = v.ownBlock ∨ (Value.slice A' (n + 1) c').ownBlock = some w.heap.size) → K (a.put o.dst (.slice A' (n + 1) c')) w') :
    if Region.wanted o (yielded ops a.tmps) = true then Oper.wp P o a w K Q else E := by
  have hw : Region.wanted o (yielded ops a.tmps) = true := by simp [Region.wanted, hgd]
  rw [if_pos hw]
  exact wp_append_one s x t ho base e i z size bytes ht hi hz hsize hby hzs hsz hb1 v n xs hs hown g cs hx hblk hcs h1 hn hbase h
end

theorem own_mono {w : World} {B B' : Nat} {e : TypeId} {s n : Nat} {xs : List Value} {v : Value} (h : w.ownsRow B e s v n xs) (hB : B' ≤ B) : w.ownsRow B' e s v n xs := by
  refine ⟨h.1, ?_⟩
  rcases h.2 with h2 | ⟨g, cap, cur, hv, hb, r⟩
  · exact .inl h2
  · exact .inr ⟨g, cap, cur, hv, by omega, r⟩
theorem own_below {w w' : World} {B : Nat} {e : TypeId} {s n : Nat} {xs : List Value} {v : Value} (h : w.ownsRow B e s v n xs) (hb : Below w.heap.size w w') : w'.ownsRow B e s v n xs :=
  h.kept (row := none) ⟨hb.os, hb.tape, hb.output, hb.size, fun k hk _ => hb.block k hk⟩ (by cases hv : v.ownBlock <;> simp)
theorem own_setCell_far {w : World} {B : Nat} {e : TypeId} {s n : Nat} {xs : List Value} {v : Value} (h : w.ownsRow B e s v n xs) {p : Addr} (hp : p.block < B) (u : Value) : (w.setCell p u).ownsRow B e s v n xs :=
  ownsRow_setCell_below h hp u
/-- What an append to a row from base on leaves is below the base as it was. -/
theorem below_appended {a w w' : World} {B base : Nat} {e : TypeId} {s n : Nat} {xs : List Value} {v : Value} (h : Below B a w) (hown : w.ownsRow base e s v n xs) (hg : w.grownBy w' v.ownBlock) (hB : B ≤ base) (hw : B ≤ w.heap.size) : Below B a w' :=
  h.grown hg hw fun k hk => by have := (hown.lt k hk).1; omega
theorem blk_appended {w w' : World} {g base : Nat} {e t : TypeId} {s n : Nat} {xs : List Value} {v : Value} {cs : Array Value} (h : Blk w g t cs) (hown : w.ownsRow base e s v n xs) (hg : w.grownBy w' v.ownBlock) (hB : g < base) : Blk w' g t cs :=
  h.grown hg fun e => by have := (hown.lt g e.symm).1; omega

end Go.Proofs.YteiidfklepjpmaaDoor

/-
  Plain lists: what walks over slices want of them.
-/
namespace Go.Proofs.YteiidfklepjpmaaDoor
open Go.RowKit

theorem take_snoc' {α} (l : List α) (k : Nat) (h : k < l.length) : l.take (k + 1) = l.take k ++ [l[k]] := by
  rw [List.take_succ_eq_append_getElem h]

/-- Words as cells. -/
def ints (κ : IntKind) (l : List Int) : List Value := l.map (Value.int κ)
theorem ints_len {κ : IntKind} (l : List Int) : (ints κ l).length = l.length := by simp [ints]
theorem ints_get {κ : IntKind} (l : List Int) (k : Nat) (h : k < l.length) : (ints κ l)[k]? = some (.int κ l[k]) := by simp [ints, h]
theorem ints_append {κ : IntKind} (l m : List Int) : ints κ (l ++ m) = ints κ l ++ ints κ m := by simp [ints]

/-- Pairs of words as cells. -/
def rec2 (l : List (Int × Int)) : List Value := l.flatMap fun r => [.int .u64 r.1, .int .u64 r.2]
theorem rec2_append (l m : List (Int × Int)) : rec2 (l ++ m) = rec2 l ++ rec2 m := by simp [rec2]
theorem rec2_len (l : List (Int × Int)) : (rec2 l).length = l.length * 2 := by
  induction l with
  | nil => rfl
  | cons r l ih =>
    have : (rec2 (r :: l)) = .int .u64 r.1 :: .int .u64 r.2 :: rec2 l := rfl
    rw [this]
    simp only [List.length_cons, ih]
    omega
theorem rec2_get (l : List (Int × Int)) : ∀ (k : Nat) (h : k < l.length), (rec2 l)[k * 2]? = some (.int .u64 l[k].1) ∧ (rec2 l)[k * 2 + 1]? = some (.int .u64 l[k].2) := by
  induction l with
  | nil => intro k h; simp at h
  | cons r l ih =>
    intro k h
    cases k with
    | zero => simp [rec2]
    | succ k =>
      have := ih k (by simpa using h)
      have e1 : (k + 1) * 2 = k * 2 + 2 := by omega
      have e2 : (k + 1) * 2 + 1 = k * 2 + 1 + 2 := by omega
      simpa [rec2, e1, e2] using this

/-- Bounds of a word. -/
def W64 (x : Int) : Prop := 0 ≤ x ∧ x ≤ 18446744073709551615
def I64 (x : Int) : Prop := -9223372036854775808 ≤ x ∧ x ≤ 9223372036854775807
theorem W64.of_wf {x : Int} (h : (Lit.int .u64 x).wf = true) : W64 x := by
  simp [Lit.wf, IntKind.min, IntKind.max, IntKind.signed, IntKind.bits] at h
  exact ⟨by omega, by omega⟩
theorem I64.of_wf {x : Int} (h : (Lit.int .i64 x).wf = true) : I64 x := by
  simp [Lit.wf, IntKind.min, IntKind.max, IntKind.signed, IntKind.bits] at h
  exact ⟨by omega, by omega⟩

end Go.Proofs.YteiidfklepjpmaaDoor

/-
  Readings of words and of pairs of words, asked at an index.
-/
namespace Go.Proofs.YteiidfklepjpmaaDoor
open Go.RowKit

theorem Reads.word {w : World} {B n k : Nat} {A : Option Addr} {κ : IntKind} {l : List Int} (h : Reads w B 1 A n (ints κ l)) (hk : k < n) :
    ∃ a, A = some a ∧ ∃ hl : k < l.length, w.cell? (a.add k) = some (.int κ l[k]) := by
  have hl : k < l.length := by
    have := h.1
    rw [ints_len, Nat.mul_one] at this
    omega
  obtain ⟨a, ha, _, x, _⟩ := h.row hk
  have x1 := x (by omega)
  rw [Nat.mul_one] at x1
  exact ⟨a, ha, hl, x1.trans (ints_get l k hl)⟩

theorem Reads.pair {w : World} {B n k : Nat} {A : Option Addr} {l : List (Int × Int)} (h : Reads w B 2 A n (rec2 l)) (hk : k < n) :
    ∃ a, A = some a ∧ ∃ hl : k < l.length, w.cell? (a.add (k * 2)) = some (.int .u64 l[k].1) ∧ w.cell? ⟨(a.add (k * 2)).block, (a.add (k * 2)).off + 1, none⟩ = some (.int .u64 l[k].2) := by
  have hl : k < l.length := by
    have := h.1
    rw [rec2_len] at this
    omega
  obtain ⟨a, ha, _, x, y⟩ := h.row hk
  obtain ⟨y1, y2⟩ := rec2_get l k hl
  exact ⟨a, ha, hl, (x (by omega)).trans y1, (y 1 (by omega) (by omega)).trans y2⟩

theorem Reads.lenWord {w : World} {B n : Nat} {A : Option Addr} {κ : IntKind} {l : List Int} (h : Reads w B 1 A n (ints κ l)) : l.length = n := by
  have := h.1
  rw [ints_len, Nat.mul_one] at this
  exact this
theorem Reads.lenPair {w : World} {B n : Nat} {A : Option Addr} {l : List (Int × Int)} (h : Reads w B 2 A n (rec2 l)) : l.length = n := by
  have := h.1
  rw [rec2_len] at this
  omega
theorem filter_len_take {α : Type} (p : α → Bool) (l : List α) (k : Nat) : ((l.take k).filter p).length ≤ k := by
  have h1 := List.length_filter_le p (l.take k)
  have h2 : (l.take k).length ≤ k := List.length_take_le _ _
  omega
theorem filter_snoc_yes {α : Type} {p : α → Bool} {l : List α} {x : α} (h : p x = true) : (l ++ [x]).filter p = l.filter p ++ [x] := by simp [List.filter_append, h]
theorem filter_snoc_no {α : Type} {p : α → Bool} {l : List α} {x : α} (h : p x = false) : (l ++ [x]).filter p = l.filter p := by simp [List.filter_append, h]
end Go.Proofs.YteiidfklepjpmaaDoor

/-
  Slices of words: Clone, part.
-/
namespace Go.Proofs.YteiidfklepjpmaaDoor
open Go.RowKit

theorem infoU64 : (Tryd.prog.info? 33).map (fun i => (i.zero, i.size, i.bytes)) = some (some (.int .u64 0), 1, 8) := by kernel_rfl

/-- v is a slice that reads as these words, its array below block B. -/
def Sl (w : World) (B : Nat) (v : Value) (xs : List Int) : Prop := ∃ A c, v = .slice A xs.length c ∧ xs.length ≤ c ∧ c ≤ 9223372036854775807 ∧ Reads w B 1 A xs.length (ints .u64 xs)
theorem Sl.below {w w' : World} {B : Nat} {v : Value} {xs : List Int} (h : Sl w B v xs) (hb : Below B w w') : Sl w' B v xs := by
  obtain ⟨A, c, h1, h2, h3, h4⟩ := h
  exact ⟨A, c, h1, h2, h3, h4.below hb⟩
theorem Sl.more {w : World} {B B' : Nat} {v : Value} {xs : List Int} (h : Sl w B v xs) (hB : B ≤ B') : Sl w B' v xs := by
  obtain ⟨A, c, h1, h2, h3, h4⟩ := h
  exact ⟨A, c, h1, h2, h3, h4.more hB⟩
theorem ints_one {κ : IntKind} (l : List Int) : ∀ u ∈ ints κ l, u.oneCell' = true := by
  intro u hu
  unfold ints at hu
  obtain ⟨x, _, rfl⟩ := List.mem_map.1 hu
  rfl
theorem Sl.nil (w : World) (B : Nat) : Sl w B (.slice none 0 0) [] := ⟨none, 0, rfl, Nat.le_refl _, by omega, Reads.none_⟩

theorem Sl.of_own {w : World} {B n : Nat} {e : TypeId} {xs : List Int} {v : Value} (h : w.ownsRow B e 1 v n (ints .u64 xs)) : Sl w w.heap.size v xs := by
  have hn : xs.length = n := by have := h.1; rw [ints_len] at this; omega
  subst hn
  rcases h.2 with ⟨rfl, h0⟩ | ⟨g, cap, cur, rfl, _, _, hc, hm, _⟩
  · have : xs = [] := List.eq_nil_of_length_eq_zero h0
    subst this
    exact Sl.nil _ _
  · exact ⟨_, _, rfl, hc, by unfold maxLen at hm; omega, Reads.of_own h⟩

/-- v is a slice of these words, its array in a block from lo on, at its head. -/
def Own (w : World) (lo : Nat) (v : Value) (xs : List Int) : Prop := w.ownsRow lo 33 1 v xs.length (ints .u64 xs)
theorem Own.nil (w : World) (lo : Nat) : Own w lo (.slice none 0 0) [] := World.ownsRow_nil _ _ _ _
theorem Own.of {w : World} {lo n : Nat} {v : Value} {xs : List Int} (h : w.ownsRow lo 33 1 v n (ints .u64 xs)) : Own w lo v xs := by
  have hn : xs.length = n := by have := h.1; rw [ints_len] at this; omega
  unfold Own
  rw [hn]
  exact h
theorem Own.below {w w' : World} {lo : Nat} {v : Value} {xs : List Int} (h : Own w lo v xs) (hb : Below w.heap.size w w') : Own w' lo v xs := own_below h hb
theorem Own.mono {w : World} {lo lo' : Nat} {v : Value} {xs : List Int} (h : Own w lo v xs) (hl : lo' ≤ lo) : Own w lo' v xs := own_mono h hl
theorem Own.far {w : World} {lo : Nat} {v : Value} {xs : List Int} (h : Own w lo v xs) {p : Addr} (hp : p.block < lo) (u : Value) : Own (w.setCell p u) lo v xs := own_setCell_far h hp u
theorem Own.sl {w : World} {lo : Nat} {v : Value} {xs : List Int} (h : Own w lo v xs) : Sl w w.heap.size v xs := Sl.of_own h
theorem Own.drew {w : World} {lo : Nat} {v : Value} {xs : List Int} (h : Own w lo v xs) : Own w.drew lo v xs := h
theorem Own.val {w : World} {lo : Nat} {v : Value} {xs : List Int} (h : Own w lo v xs) : ∃ A c, v = .slice A xs.length c := by
  obtain ⟨A, c, h1, _⟩ := h.sl
  exact ⟨A, c, h1⟩

theorem reads_prefix' {w : World} {B n m : Nat} {A : Option Addr} {l : List Int} {κ : IntKind} (h : Reads w B 1 A n (ints κ l)) (hm : m ≤ n) : Reads w B 1 A m (ints κ (l.take m)) := by
  have hl := h.lenWord
  refine ⟨by rw [ints_len, List.length_take]; omega, fun h0 => ?_⟩
  obtain ⟨ad, e, hb, hc⟩ := h.2 (by omega)
  refine ⟨ad, e, hb, fun j u hu => hc j u ?_⟩
  unfold ints at *
  rw [List.map_take, List.getElem?_take] at hu
  split at hu
  · exact hu
  · cases hu
/-- l[from:to:to], cloned. -/
def cutL (l : List Int) (a b : Nat) : List Int := (l.take b).drop a
theorem cutL_len (l : List Int) (a b : Nat) (h : b ≤ l.length) : (cutL l a b).length = b - a := by unfold cutL; simp; omega
theorem reads_window {w : World} {B n a b : Nat} {A : Option Addr} {l : List Int} {κ : IntKind} (h : Reads w B 1 A n (ints κ l)) (hab : a < b) (hb : b ≤ n) : Reads w B 1 (A.map (·.add a)) (b - a) (ints κ (cutL l a b)) := by
  have h1 := (reads_prefix' h hb).cut (k := a) (cap := b) (by omega) (Nat.le_refl _)
  rw [if_neg (by omega), Nat.mul_one] at h1
  have e : (ints κ (l.take b)).drop a = ints κ (cutL l a b) := by unfold ints cutL; rw [List.map_drop]
  rw [← e]
  exact h1
end Go.Proofs.YteiidfklepjpmaaDoor

/-
  A store of many cells into one block.
-/
namespace Go.Proofs.YteiidfklepjpmaaDoor
open Go.RowKit

/-- So many cells, one behind the other. -/
def putL (w : World) (g : Nat) : Nat → List Value → World
  | _, [] => w
  | k, v :: vs => putL (w.setCell ⟨g, k, none⟩ v) g (k + 1) vs
def setL (cs : Array Value) : Nat → List Value → Array Value
  | _, [] => cs
  | k, v :: vs => setL (cs.setIfInBounds k v) (k + 1) vs
theorem Blk.putL {g : Nat} {T : TypeId} : ∀ (vs : List Value) (w : World) (cs : Array Value) (k : Nat), Blk w g T cs → Blk (putL w g k vs) g T (setL cs k vs)
  | [], _, _, _, h => h
  | v :: vs, _, _, k, h => Blk.putL vs _ _ (k + 1) (h.set_ k v)
theorem Blk.offL {g x : Nat} {T : TypeId} {cs : Array Value} (hne : x ≠ g) : ∀ (vs : List Value) (w : World) (k : Nat), Blk w x T cs → Blk (Proofs.YteiidfklepjpmaaDoor.putL w g k vs) x T cs
  | [], _, _, h => h
  | v :: vs, _, k, h => Blk.offL hne vs _ (k + 1) (h.far (p := ⟨g, k, none⟩) hne v)
theorem Below.putL {g L : Nat} {w0 : World} (hg : L ≤ g) : ∀ (vs : List Value) (w : World) (k : Nat), Below L w0 w → Below L w0 (Proofs.YteiidfklepjpmaaDoor.putL w g k vs)
  | [], _, _, h => h
  | v :: vs, _, k, h => Below.putL hg vs _ (k + 1) (h.setCell (p := ⟨g, k, none⟩) hg v)
theorem own_putL {g lo : Nat} {e : TypeId} {s n : Nat} {xs : List Value} {u : Value} (hg : g < lo) : ∀ (vs : List Value) (w : World) (k : Nat), w.ownsRow lo e s u n xs → (putL w g k vs).ownsRow lo e s u n xs
  | [], _, _, h => h
  | v :: vs, _, k, h => own_putL hg vs _ (k + 1) (own_setCell_far h (p := ⟨g, k, none⟩) hg v)
theorem own_set1 {w : World} {base n g j : Nat} {e T : TypeId} {s : Nat} {v : Value} {xs : List Value} {cs : Array Value} (h : w.ownsRow base e s v n xs) (hb : Blk w g T cs) (hne : e ≠ T) (u : Value) : (w.setCell ⟨g, j, none⟩ u).ownsRow base e s v n xs :=
  h.kept (row := some g) ⟨rfl, rfl, rfl, by rw [World.size_setCell]; exact Nat.le_refl _, fun k _ hk => Below.heap_setCell w ⟨g, j, none⟩ u k (fun e => hk (by rw [e]))⟩ (.inr (own_blk_ne h hb hne))
theorem own_putT {g lo : Nat} {e T : TypeId} {s n : Nat} {xs : List Value} {u : Value} (hne : e ≠ T) : ∀ (vs : List Value) (w : World) (cs : Array Value) (k : Nat), Blk w g T cs → w.ownsRow lo e s u n xs → (putL w g k vs).ownsRow lo e s u n xs
  | [], _, _, _, _, h => h
  | v :: vs, _, _, k, hb, h => own_putT hne vs _ _ (k + 1) (hb.set_ k v) (own_set1 h hb hne v)
theorem size_putL {g : Nat} : ∀ (vs : List Value) (w : World) (k : Nat), (putL w g k vs).heap.size = w.heap.size
  | [], _, _ => rfl
  | v :: vs, w, k => by
    show (putL (w.setCell ⟨g, k, none⟩ v) g (k + 1) vs).heap.size = w.heap.size
    rw [size_putL vs]
    exact World.size_setCell _ _ _
/-- The kit's own name for such a store. -/
theorem putL_eq {g : Nat} : ∀ (vs : List Value) (w : World) (k : Nat), w.setCells g k vs = putL w g k vs
  | [], _, _ => rfl
  | v :: vs, w, k => by
    show (w.setCell ⟨g, k, none⟩ v).setCells g (k + 1) vs = putL (w.setCell ⟨g, k, none⟩ v) g (k + 1) vs
    exact putL_eq vs _ _
theorem Blk.range {w : World} {g : Nat} {T : TypeId} {cs : Array Value} (h : Blk w g T cs) : w.rangeAt g 0 cs.toList := fun j v hv => by
  rw [Nat.zero_add, h.cell j]
  simpa using hv
theorem Blk.there {w : World} {g n : Nat} {T : TypeId} {cs : Array Value} (h : Blk w g T cs) (hn : cs.size = n) : w.there g 0 n := fun j hj => by
  refine ⟨?_, ?_⟩
  · rw [Nat.zero_add, h.cell j]
    simp [hn, hj]
  · rw [Nat.zero_add]
    exact h.frozen j
end Go.Proofs.YteiidfklepjpmaaDoor

/-
  StackParts' memory: a row in the midst of a block; a list of slots that was cut at its front, and is appended to.
-/
namespace Go.Proofs.YteiidfklepjpmaaDoor
open Go.RowKit

/-- One row of cells in the midst of a block. -/
def Mid (w : World) (g : Nat) (T : TypeId) (pre m post : List Value) : Prop := Blk w g T (pre ++ (m ++ post)).toArray
section
variable {w w' : World} {g o : Nat} {T : TypeId} {pre m post : List Value}
theorem Mid.cell (h : Mid w g T pre m post) (ho : pre.length = o) (j : Nat) (hj : j < m.length) : w.cell? ⟨g, o + j, none⟩ = m[j]? := by
  rw [Blk.cell h (o + j)]
  simp only [List.getElem?_toArray]
  rw [List.getElem?_append_right (by omega), ho, Nat.add_sub_cancel_left, List.getElem?_append_left hj]
theorem Mid.frozen (h : Mid w g T pre m post) (i : Nat) : w.frozen? ⟨g, i, none⟩ = false := Blk.frozen h i
theorem Mid.below {B : Nat} (h : Mid w g T pre m post) (hb : Below B w w') (hg : g < B) : Mid w' g T pre m post := Blk.below h hb hg
theorem blk_sets : ∀ (m m' p q : List Value) (w : World), m'.length = m.length → Blk w g T (p ++ (m ++ q)).toArray → Blk (w.setCells g p.length m') g T (p ++ (m' ++ q)).toArray
  | [], [], _, _, _, _, h => h
  | x :: m, v :: m', p, q, w, hl, h => by
    have h1 := Blk.set_ h p.length v
    have e : ((p ++ (x :: m ++ q)).toArray.setIfInBounds p.length v) = ((p ++ [v]) ++ (m ++ q)).toArray := by
      simp
    rw [e] at h1
    have h2 := blk_sets m m' (p ++ [v]) q (w.setCell ⟨g, p.length, none⟩ v) (by simpa using hl) h1
    rw [show (p ++ [v]).length = p.length + 1 by simp] at h2
    have e2 : p ++ [v] ++ (m' ++ q) = p ++ (v :: m' ++ q) := by simp
    rw [e2] at h2
    exact h2
  | [], _ :: _, _, _, _, hl, _ => by simp at hl
  | _ :: _, [], _, _, _, hl, _ => by simp at hl
theorem Mid.sets {a b m' : List Value} (h : Mid w g T pre (a ++ (m ++ b)) post) {k : Nat} (hk : pre.length + a.length = k) (hl : m'.length = m.length) : Mid (w.setCells g k m') g T pre (a ++ (m' ++ b)) post := by
  subst hk
  unfold Mid at h ⊢
  have e : pre ++ (a ++ (m ++ b) ++ post) = (pre ++ a) ++ (m ++ (b ++ post)) := by simp
  have e2 : pre ++ (a ++ (m' ++ b) ++ post) = (pre ++ a) ++ (m' ++ (b ++ post)) := by simp
  rw [e] at h
  rw [e2, ← List.length_append]
  exact blk_sets m m' (pre ++ a) (b ++ post) w hl h
theorem Mid.set1 {a b : List Value} {x : Value} (h : Mid w g T pre (a ++ ([x] ++ b)) post) {k : Nat} (hk : pre.length + a.length = k) (v : Value) : Mid (w.setCell ⟨g, k, none⟩ v) g T pre (a ++ ([v] ++ b)) post := h.sets (m' := [v]) hk rfl
theorem Mid.range {a b : List Value} (h : Mid w g T pre (a ++ (m ++ b)) post) {k : Nat} (hk : pre.length + a.length = k) : w.rangeAt g k m := fun j v hv => by
  have hj : j < m.length := (List.getElem?_eq_some_iff.1 hv).1
  have := h.cell rfl (a.length + j) (by simp only [List.length_append]; omega)
  rw [← Nat.add_assoc, hk] at this
  rw [this, List.getElem?_append_right (by omega), Nat.add_sub_cancel_left, List.getElem?_append_left hj]
  exact hv
theorem Mid.there {a b : List Value} (h : Mid w g T pre (a ++ (m ++ b)) post) {k n : Nat} (hk : pre.length + a.length = k) (hn : n = m.length) : w.there g k n := fun j hj => by
  refine ⟨?_, Blk.frozen h _⟩
  have := h.range hk j m[j] (List.getElem?_eq_getElem (by omega))
  rw [this]
  rfl
end

/-- The block of a slice. -/
def blkOf (A : Option Addr) : Option Nat := A.map (·.block)
/-- A list of slots, from some place of its row on. -/
def OwR (w : World) (lo : Nat) (A : Option Addr) (n c : Nat) (xs : List Int) : Prop :=
  xs.length = n ∧ n ≤ c ∧ c ≤ maxLen ∧ ((A = none ∧ c = 0) ∨ ∃ b off cur, A = some ⟨b, off, none⟩ ∧ lo ≤ b ∧ Blk w b 3 cur ∧ off + c ≤ cur.size ∧ (cur.toList.drop off).take n = ints .i64 xs)
section
variable {P : Program} {w w' : World} {lo n c : Nat} {A : Option Addr} {xs : List Int}
theorem OwR.nil (w : World) (lo : Nat) : OwR w lo none 0 0 [] := ⟨rfl, Nat.le_refl _, Nat.zero_le _, .inl ⟨rfl, rfl⟩⟩
theorem OwR.same (h : OwR w lo A n c xs) (hk : ∀ b, blkOf A = some b → w'.heap[b]? = w.heap[b]?) : OwR w' lo A n c xs := by
  obtain ⟨h1, h2, h3, h4⟩ := h
  refine ⟨h1, h2, h3, h4.imp id ?_⟩
  rintro ⟨b, off, cur, rfl, hb, hg, r⟩
  exact ⟨b, off, cur, rfl, hb, (hk b rfl).trans hg, r⟩
theorem OwR.lt (h : OwR w lo A n c xs) {b : Nat} (hb : blkOf A = some b) : lo ≤ b ∧ b < w.heap.size := by
  rcases h.2.2.2 with ⟨rfl, _⟩ | ⟨b', off, cur, rfl, h1, h2, _⟩
  · simp [blkOf] at hb
  · have : b' = b := by simpa [blkOf] using hb
    subst this
    exact ⟨h1, h2.lt⟩
theorem OwR.far (h : OwR w lo A n c xs) {row : Option Nat} (hg : w.grownBy w' row) (hne : ∀ b, blkOf A = some b → row ≠ some b) : OwR w' lo A n c xs :=
  h.same fun b hb => hg.block b (h.lt hb).2 (fun e => hne b hb e.symm)
theorem OwR.below (h : OwR w lo A n c xs) (hb : Below w.heap.size w w') : OwR w' lo A n c xs := h.same fun b e => hb.block b (h.lt e).2
theorem OwR.alloc (h : OwR w lo A n c xs) (o : Obj) : OwR (w.alloc o) lo A n c xs := h.same fun b e => Below.heap_alloc w o b (h.lt e).2
theorem OwR.drew (h : OwR w lo A n c xs) : OwR w.drew lo A n c xs := h
theorem OwR.type (h : OwR w lo A n c xs) {g : Nat} {T : TypeId} {cs : Array Value} (hg : Blk w g T cs) (hne : 3 ≠ T) : blkOf A ≠ some g := by
  rcases h.2.2.2 with ⟨rfl, _⟩ | ⟨b', off, cur, rfl, h1, h2, _⟩
  · simp [blkOf]
  · intro e
    have : b' = g := by simpa [blkOf] using e
    subst this
    exact h2.ne_ hg hne rfl
theorem OwR.setFar (h : OwR w lo A n c xs) {g : Nat} (hne : blkOf A ≠ some g) (j : Nat) (v : Value) : OwR (w.setCell ⟨g, j, none⟩ v) lo A n c xs :=
  h.same fun b hb => Below.heap_setCell w ⟨g, j, none⟩ v b (fun e => by subst e; exact hne hb)
theorem OwR.setsFar {g : Nat} (hne : blkOf A ≠ some g) : ∀ (vs : List Value) (k : Nat) (w : World), OwR w lo A n c xs → OwR (w.setCells g k vs) lo A n c xs
  | [], _, _, h => h
  | v :: vs, k, w, h => OwR.setsFar hne vs (k + 1) (w.setCell ⟨g, k, none⟩ v) (h.setFar hne k v)
theorem OwR.of_own {base : Nat} (h : w.ownsRow base 3 1 (.slice A n c) n (ints .i64 xs)) (hlo : lo ≤ base) : OwR w lo A n c xs := by
  have hl := h.1
  rw [ints_len] at hl
  rcases h.2 with ⟨hv, h0⟩ | ⟨g, cap, cur, hv, hb, hg, hnc, hcm, hcs, ht⟩
  · injection hv with e1 e2 e3
    subst e1 e2 e3
    exact ⟨by omega, Nat.le_refl _, Nat.zero_le _, .inl ⟨rfl, rfl⟩⟩
  · injection hv with e1 e2 e3
    subst e1 e3
    exact ⟨by omega, hnc, hcm, .inr ⟨g, 0, cur, rfl, by omega, hg, by omega, by simpa using ht⟩⟩
theorem OwR.reads (h : OwR w lo A n c xs) : Reads w w.heap.size 1 A n (ints .i64 xs) := by
  obtain ⟨h1, h2, h3, h4⟩ := h
  refine ⟨by rw [ints_len]; omega, fun hn => ?_⟩
  rcases h4 with ⟨rfl, h0⟩ | ⟨b, off, cur, rfl, hb, hg, hs, ht⟩
  · omega
  · refine ⟨_, rfl, hg.lt, fun j u hu => ?_⟩
    rw [Addr.add_mid, hg.cell (off + j)]
    rw [← ht, List.getElem?_take] at hu
    split at hu
    · rw [List.getElem?_drop] at hu
      rw [← Array.getElem?_toList]
      exact hu
    · cases hu
theorem OwR.cut {x : Int} (h : OwR w lo A (n + 1) c (x :: xs)) : OwR w lo (if c = 1 then A else A.map (·.add 1)) n (c - 1) xs := by
  obtain ⟨h1, h2, h3, h4⟩ := h
  refine ⟨by simpa using h1, by omega, by omega, ?_⟩
  rcases h4 with ⟨rfl, h0⟩ | ⟨b, off, cur, rfl, hb, hg, hs, ht⟩
  · omega
  · right
    have hn : (cur.toList.drop (off + 1)).take n = ints .i64 xs := by
      have := congrArg (List.drop 1) ht
      rw [List.drop_take, List.drop_drop] at this
      simpa [ints] using this
    by_cases e : c = 1
    · subst e
      rw [if_pos rfl]
      obtain rfl : n = 0 := by omega
      obtain rfl : xs = [] := List.eq_nil_of_length_eq_zero (by simpa using h1)
      exact ⟨b, off, cur, rfl, hb, hg, by omega, by simp [ints]⟩
    · rw [if_neg e]
      exact ⟨b, off + 1, cur, by simp [Addr.add], hb, hg, by omega, hn⟩
theorem infoInt' : (Tryd.prog.info? 3).map (fun i => (i.zero, i.size, i.bytes)) = some (some (.int .i64 0), 1, 8) := by kernel_rfl
theorem grown_sets (g : Nat) : ∀ (vs : List Value) (k : Nat) (w : World), w.grownBy (w.setCells g k vs) (some g)
  | [], _, w => World.grownBy.refl w _
  | v :: vs, k, w => by
    have h := grown_sets g vs (k + 1) (w.setCell ⟨g, k, none⟩ v)
    refine ⟨h.os, h.tape, h.output, ?_, fun b hb hne => ?_⟩
    · show w.heap.size ≤ ((w.setCell ⟨g, k, none⟩ v).setCells g (k + 1) vs).heap.size
      have := h.size
      simpa [World.setCell] using this
    · show ((w.setCell ⟨g, k, none⟩ v).setCells g (k + 1) vs).heap[b]? = _
      rw [h.block b (by simpa [World.setCell] using hb) hne]
      exact Below.heap_setCell w ⟨g, k, none⟩ v b (fun e => hne (by simp [e]))
theorem run_append_owr (ty : TypeId) (h : OwR w lo A n c xs) (x : Int) {gl : Nat} (hb : Blk w gl 3 #[.int .i64 x]) (hlo : lo ≤ w.heap.size) (hn : n ≤ 1000) :
    ∃ A' c' w', (Builtin.append_ #[24, 24] ty #[.slice A n c, .slice (some ⟨gl, 0, none⟩) 1 1]).run Tryd.prog w = .ok (.slice A' (n + 1) c') w' ∧ OwR w' lo A' (n + 1) c' (xs ++ [x]) ∧ w.grownBy w' (blkOf A) ∧ (blkOf A' = blkOf A ∨ ∃ b, blkOf A' = some b ∧ w.heap.size ≤ b) := by
  obtain ⟨i0, hi0, hz0, hs0, hb0⟩ := info_parts infoInt'
  have hnews : ∀ j u, [Value.int .i64 x][j]? = some u → w.cell? ((⟨gl, 0, none⟩ : Addr).add j) = some u := fun j u hu => by
    match j, hu with
    | 0, hu =>
      have := hb.cell 0
      simp at hu
      subst hu
      exact this
  obtain ⟨h1, h2, h3, h4⟩ := h
  have he : ints .i64 xs ++ [Value.int .i64 x] = ints .i64 (xs ++ [x]) := by simp [ints]
  rcases h4 with ⟨rfl, rfl⟩ | ⟨b, off, cur, rfl, hbl, hg, hs, ht⟩
  · obtain rfl : n = 0 := by omega
    obtain rfl : xs = [] := List.eq_nil_of_length_eq_zero h1
    obtain ⟨A', c', w', r1, r2, r3, r4⟩ := run_append_one (P := Tryd.prog) (w := w) lo 24 ty 3 i0 (.int .i64 0) 1 8 Tryd.underlying24 hi0 hz0 hs0 hb0 rfl (by omega) (by omega) (.slice none 0 0) 0 [] (World.ownsRow_nil w lo 3 1) gl #[.int .i64 x] hb rfl rfl (by omega) hlo
    refine ⟨A', c', w', r1, OwR.of_own (base := lo) (by simpa [ints] using r2) (Nat.le_refl _), r3, ?_⟩
    have r2' : w'.ownsRow lo 3 1 (.slice A' (0 + 1) c') (0 + 1) (ints .i64 [x]) := by simpa [ints] using r2
    rcases r4 with r4 | r4
    · rcases r2'.2 with ⟨hv, _⟩ | ⟨g, cap, cur, hv, _⟩
      · injection hv with _ e2 _
        omega
      · rw [hv] at r4
        simp [Value.ownBlock] at r4
    · rcases r2'.2 with ⟨hv, _⟩ | ⟨g, cap, cur, hv, _⟩
      · injection hv with _ e2 _
        omega
      · injection hv with e1 e2 e3
        subst e1
        right
        exact ⟨w.heap.size, by simpa [Value.ownBlock, blkOf] using r4, Nat.le_refl _⟩
  · by_cases hr : n + 1 ≤ c
    · have hrun := run_append_room_cells (P := Tryd.prog) w 24 ty 3 i0 Tryd.underlying24 hi0 b off n c ⟨gl, 0, none⟩ 1 1 [.int .i64 x] (by rw [hs0]; rfl) hnews (by simp [Value.oneCell']) hr
        (fun j hj => by rw [hs0, hg.cell]; simp at hj ⊢; omega) (fun j hj => hg.frozen _)
      rw [hs0, Nat.mul_one] at hrun
      refine ⟨_, _, _, hrun, ⟨by simp [h1], hr, h3, .inr ⟨b, off, cur.setIfInBounds (off + n) (.int .i64 x), rfl, hbl, hg.set_ (off + n) (.int .i64 x), by simpa using hs, ?_⟩⟩, grown_sets b [.int .i64 x] (off + n) w, .inl rfl⟩
      rw [← he, ← ht]
      apply List.ext_getElem?
      intro k
      simp only [Array.toList_setIfInBounds]
      rw [List.getElem?_take, List.getElem?_append, List.length_take, List.length_drop, Array.length_toList, List.getElem?_drop, List.getElem?_set]
      rw [List.getElem?_take, List.getElem?_drop]
      have hm : min n (cur.size - off) = n := by omega
      rw [hm]
      by_cases hk : k < n
      · rw [if_pos (by omega), if_neg (by omega), if_pos hk, if_pos hk]
      · by_cases hk2 : k = n
        · subst hk2
          rw [if_pos (by omega), if_pos rfl, if_pos (by simp; omega), if_neg (by omega)]
          simp
        · rw [if_neg (by omega), if_neg hk]
          simp
          omega
    · obtain ⟨v', w', r1, r2, r3⟩ := run_append_arg_grows (P := Tryd.prog) w 24 ty 3 i0 (.int .i64 0) 1 8 Tryd.underlying24 hi0 hz0 hs0 hb0 rfl (by omega) ⟨b, off, none⟩ n c (ints .i64 xs) (by rw [ints_len]; omega)
        (fun j u hu => by
          rw [Addr.add_mid, hg.cell (off + j)]
          rw [← ht, List.getElem?_take] at hu
          split at hu
          · rw [List.getElem?_drop] at hu
            rw [← Array.getElem?_toList]
            exact hu
          · cases hu) ⟨gl, 0, none⟩ 1 1 [.int .i64 x] rfl hnews (by omega) (by unfold maxLen; omega) (by omega)
      rw [he] at r2
      rcases r2.2 with ⟨_, h0⟩ | ⟨g, cap, cur', hv, hbg, hg', _⟩
      · omega
      · subst hv
        refine ⟨_, _, w', r1, OwR.of_own r2 hlo, ⟨r3.os, r3.tape, r3.output, r3.size, fun k hk _ => r3.block k hk (by simp)⟩, .inr ⟨g, rfl, hbg⟩⟩
end
end Go.Proofs.YteiidfklepjpmaaDoor

/-
  A law's row whose two listed variables start as the program's text lays them follows from one fact on its Go function: wherever the table of white space stands, the call hands back true and leaves what lay below the heap's old end as it was.
-/
namespace Go.Proofs.YteiidfklepjpmaaDoor
open Go.ChangeShapes Go.WideShapes Go.ChangeAt Go.RowKit

section
variable {H : Type} {enc : TypeId × Value → H} {P : Program}

theorem trodAll_below (hl : laidOutB P = true) {W W' : World} (hb : Below W.heap.size W W') {sp : Nat → Bool} : ∀ {ts : List TypeId} {vs : List Value} {ds : List (DataW H)} {ps : List MemPlace},
    ts.all (fun t => P.readableRec t && decide (t < P.types.size)) = true → DataW.TrodAll enc P W 0 (fun _ => true) true ts vs ds ps → (∀ p ∈ ps, p.block < W.heap.size) → (∀ p ∈ ps, sp p.block = true) →
    DataW.TrodAll enc P W' 0 sp true ts vs ds ps
  | [], [], [], _, _, h, _, _ => h
  | t :: ts, v :: vs, d :: ds, ps, ht, h, hlt, hsp => by
    obtain ⟨p, q, h1, h2, rfl⟩ := h
    simp only [List.all_cons, Bool.and_eq_true, decide_eq_true_eq] at ht
    refine ⟨p, q, WideElems.Trod_stays hl ht.1.1 ht.1.2 h1 (fun x hx => hb.same (hlt x (by simp [hx]))) (fun x hx => hsp x (by simp [hx])), ?_, rfl⟩
    exact trodAll_below hl hb ht.2 h2 (fun x hx => hlt x (by simp [hx])) (fun x hx => hsp x (by simp [hx]))
  | [], _ :: _, _, _, _, h, _, _ => h.elim
  | [], [], _ :: _, _, _, h, _, _ => h.elim
  | _ :: _, [], _, _, _, h, _, _ => h.elim
  | _ :: _, _ :: _, [], _, _, h, _, _ => h.elim

theorem trodAll_length {W : World} {b : Nat} {sp : Nat → Bool} {hd : Bool} : ∀ {ts : List TypeId} {vs : List Value} {ds : List (DataW H)} {ps : List MemPlace}, DataW.TrodAll enc P W b sp hd ts vs ds ps → ds.length = ts.length
  | [], [], [], _, _ => rfl
  | _ :: _, _ :: _, _ :: _, _, h => by
    obtain ⟨_, _, _, h2, _⟩ := h
    simp [trodAll_length h2]
  | [], _ :: _, _, _, h => h.elim
  | [], [], _ :: _, _, h => h.elim
  | _ :: _, [], _, _, h => h.elim
  | _ :: _, _ :: _, [], _, h => h.elim

theorem trodAll_five {W : World} {b : Nat} {sp : Nat → Bool} {hd : Bool} {t0 t1 t2 t3 t4 : TypeId} {args : Array Value} {ds : List (DataW H)} {ps : List MemPlace} (h : DataW.TrodAll enc P W b sp hd [t0, t1, t2, t3, t4] args.toList ds ps) :
    ∃ v0 v1 v2 v3 v4 d0 d1 d2 d3 d4 p0 p1 p2 p3 p4, args = #[v0, v1, v2, v3, v4] ∧ ds = [d0, d1, d2, d3, d4] ∧ ps = p0 ++ p1 ++ p2 ++ p3 ++ p4 ∧ DataW.Trod enc P W b sp hd t0 v0 d0 p0 ∧ DataW.Trod enc P W b sp hd t1 v1 d1 p1 ∧ DataW.Trod enc P W b sp hd t2 v2 d2 p2 ∧ DataW.Trod enc P W b sp hd t3 v3 d3 p3 ∧ DataW.Trod enc P W b sp hd t4 v4 d4 p4 := by
  obtain ⟨v0, vs, d0, ds0, p0, q, hargs, rfl, rfl, h0, hr⟩ := trodAll_cons h
  obtain ⟨v1, vs1, d1, ds1, p1, q1, rfl, rfl, rfl, h1, hr⟩ := trodAll_cons hr
  obtain ⟨v2, vs2, d2, ds2, p2, q2, rfl, rfl, rfl, h2, hr⟩ := trodAll_cons hr
  obtain ⟨v3, vs3, d3, ds3, p3, q3, rfl, rfl, rfl, h3, hr⟩ := trodAll_cons hr
  obtain ⟨v4, vs4, d4, ds4, p4, q4, rfl, rfl, rfl, h4, hr⟩ := trodAll_cons hr
  obtain ⟨rfl, rfl, rfl⟩ := trodAll_nil hr
  exact ⟨v0, v1, v2, v3, v4, d0, d1, d2, d3, d4, p0, p1, p2, p3, p4, by cases args; simp_all, rfl, by simp, h0, h1, h2, h3, h4⟩
theorem trodAll_six {W : World} {b : Nat} {sp : Nat → Bool} {hd : Bool} {t0 t1 t2 t3 t4 t5 : TypeId} {args : Array Value} {ds : List (DataW H)} {ps : List MemPlace} (h : DataW.TrodAll enc P W b sp hd [t0, t1, t2, t3, t4, t5] args.toList ds ps) :
    ∃ v0 v1 v2 v3 v4 v5 d0 d1 d2 d3 d4 d5 p0 p1 p2 p3 p4 p5, args = #[v0, v1, v2, v3, v4, v5] ∧ ds = [d0, d1, d2, d3, d4, d5] ∧ ps = p0 ++ p1 ++ p2 ++ p3 ++ p4 ++ p5 ∧ DataW.Trod enc P W b sp hd t0 v0 d0 p0 ∧ DataW.Trod enc P W b sp hd t1 v1 d1 p1 ∧ DataW.Trod enc P W b sp hd t2 v2 d2 p2 ∧ DataW.Trod enc P W b sp hd t3 v3 d3 p3 ∧ DataW.Trod enc P W b sp hd t4 v4 d4 p4 ∧ DataW.Trod enc P W b sp hd t5 v5 d5 p5 := by
  obtain ⟨v0, vs, d0, ds0, p0, q, hargs, rfl, rfl, h0, hr⟩ := trodAll_cons h
  obtain ⟨v1, vs1, d1, ds1, p1, q1, rfl, rfl, rfl, h1, hr⟩ := trodAll_cons hr
  obtain ⟨v2, vs2, d2, ds2, p2, q2, rfl, rfl, rfl, h2, hr⟩ := trodAll_cons hr
  obtain ⟨v3, vs3, d3, ds3, p3, q3, rfl, rfl, rfl, h3, hr⟩ := trodAll_cons hr
  obtain ⟨v4, vs4, d4, ds4, p4, q4, rfl, rfl, rfl, h4, hr⟩ := trodAll_cons hr
  obtain ⟨v5, vs5, d5, ds5, p5, q5, rfl, rfl, rfl, h5, hr⟩ := trodAll_cons hr
  obtain ⟨rfl, rfl, rfl⟩ := trodAll_nil hr
  exact ⟨v0, v1, v2, v3, v4, v5, d0, d1, d2, d3, d4, d5, p0, p1, p2, p3, p4, p5, by cases args; simp_all, rfl, by simp, h0, h1, h2, h3, h4, h5⟩

theorem post_below {f : Func} {s : ChangeSpec} {apart fresh handsOn again : Bool} {W W' : World} {args : Array Value} {v : Value} {ds gs : List (DataW H)} {before : List MemPlace}
    (hvars : s.vars = []) (hargs : (s.fn H (ds ++ gs)).args = ds) (hgv : (s.fn H (ds ++ gs)).vars = []) (hl : laidOutB P = true) (ht : f.params.toList.all (fun t => P.readableRec t && decide (t < P.types.size)) = true)
    (hW : DataW.Whole enc P f.params.toList s.vars apart W args.toList ds gs before)
    (hres : ∀ (b : Nat) (sp : Nat → Bool) (hd : Bool), DataW.TrodAll enc P W' b sp hd f.resultTypes.toList (v.resultList f.resultTypes.size) (s.fn H (ds ++ gs)).results [])
    (hb : Below W.heap.size W W')
    (hok : ∀ (j : Nat) (t : TypeId) (r : Value), f.resultTypes[j]? = some t → (v.resultList f.resultTypes.size)[j]? = some r → Value.okWide P W' .any 0 t r) :
    s.post enc P f apart fresh handsOn again W args v W' := by
  have hlt : ∀ p ∈ before, p.block < W.heap.size := fun p hp => hW.lt p hp
  have hW0 := hW
  obtain ⟨p, q, hA, hV, hpq, hz, hn⟩ := hW0
  have hq : gs = [] ∧ q = [] := by
    rw [hvars] at hV
    cases gs with
    | nil => exact ⟨rfl, hV⟩
    | cons _ _ => exact hV.elim
  obtain ⟨rfl, rfl⟩ := hq
  simp only [List.append_nil] at hpq
  subst hpq
  have hA' : ∀ sp : Nat → Bool, (∀ x ∈ before, sp x.block = true) → DataW.TrodAll enc P W' 0 sp true f.params.toList args.toList (s.fn H (ds ++ [])).args before := fun sp hsp => by
    rw [hargs]
    exact trodAll_below hl hb ht hA hlt hsp
  have hV' : ∀ sp : Nat → Bool, DataW.TrodVars enc P W' sp s.vars (s.fn H (ds ++ [])).vars [] := fun sp => by
    rw [hgv, hvars]
    rfl
  have hold : ∀ x ∈ before, (fun b => decide (b < W.heap.size)) x.block = true := fun x hx => by simpa using hlt x hx
  refine ⟨ds, [], before, [], before, [], hW, hres _ _ _, hA' _ hold, hV' _, World.keptBut_mono (fun x hx => ⟨hx, .inr (.inl hx)⟩) (hb.frame (· ∈ before)), fun _ => ?_⟩
  refine ⟨hok, _, _, ([] ++ before) ++ [], ⟨[] ++ before, [], trodAll_append (hA' _ (fun _ _ => rfl)) (hres _ _ _), hV' _, rfl, ?_, ?_⟩, ?_⟩
  · intro b off hp
    have hin : MemPlace.cell b off ∈ before := by simpa using hp
    rw [hb.frozen (hlt _ hin)]
    exact hz b off hin
  · intro ha
    have := hn ha
    simpa using this
  · intro x hx _
    simpa using hx
end

theorem own_none : ownKnob Tryd.prog.godebug = none := by kernel_rfl
theorem laid_out : laidOutB Tryd.prog = true := by kernel_rfl

/-- The two variables that the rows list. -/
noncomputable def laid2 : List (String × DataW Unit) := [("unicode.White_Space", Rows.laid_unicode_White_Space), ("strings.asciiSpace", Rows.laid_strings_asciiSpace)]
theorem door_met (os : Os) (args : Array Value) : laidMetH Tryd.prog laid2 ((World.doorLaid Tryd.prog 400 os).forCall (fun _ _ => 0) ⟨#[], args, []⟩).memory :=
  laidMetH_of_parts3 (fuel := 8) (laidMet_of_run' 8 (by kernel_rfl) (by kernel_rfl)) (by kernel_rfl) (by kernel_rfl)

/-- The table of white space stands. -/
def Tab (W : World) : Prop := 0 < W.heap.size ∧ ∀ c : Nat, c < 256 → W.cell? ⟨0, c, none⟩ = some (.int .u8 (if Lib.isSp (UInt8.ofNat c) then 1 else 0))
theorem Tab.below {W W' : World} (h : Tab W) (hb : Below W.heap.size W W') : Tab W' :=
  ⟨Nat.lt_of_lt_of_le h.1 hb.size, fun c hc => (hb.cell (p := ⟨0, c, none⟩) h.1).trans (h.2 c hc)⟩
theorem named_space : Tryd.prog.globalNamed "strings.asciiSpace" = some 0 := by kernel_rfl
theorem type_space : (Tryd.prog.globals[0]?).map (·.type) = some 97 := by kernel_rfl

set_option maxRecDepth 100000 in
theorem tab_of_laid {W : World} (h : laidMetH Tryd.prog laid2 W) : Tab W := by
  rw [MakeChecks.laidMetH_plain _ _ _ (by kernel_rfl)] at h
  obtain ⟨ps, ⟨g0, t0, cs0, f0, p0, q0, hg0, ht0, hv0, hd0, ⟨g1, t1, cs1, f1, p1, q1, hg1, ht1, hv1, hd1, _, _⟩, _⟩, _, _⟩ := h
  obtain rfl := Option.some.inj (named_space.symm.trans hg1)
  obtain rfl := Option.some.inj (type_space.symm.trans ht1)
  have e : (Rows.laid_strings_asciiSpace : DataW Unit) = Lib.tabData .u8 Lib.asciiSpaceTab := by rfl
  rw [e] at hd1
  have hcs := Lib.cells_of_tab Tryd.underlying97 Tryd.underlying5 (by kernel_rfl) (by kernel_rfl) hd1
  have hT : Lib.TabIs Tryd.prog W "strings.asciiSpace" .u8 Lib.asciiSpaceTab := by
    unfold Lib.TabIs
    rw [hv1, ← hcs]
  have hc : ∀ c : Nat, c < 256 → W.cell? ⟨0, c, none⟩ = some (.int .u8 (if Lib.isSp (UInt8.ofNat c) then 1 else 0)) := fun c hc => by
    rw [hT.cell named_space c (by rw [Lib.asciiSpaceTab_length]; exact hc), Lib.asciiSpaceTab_at c hc]
  exact ⟨World.block_lt_of_cell? _ _ (hc 0 (by omega)), hc⟩

set_option maxRecDepth 100000 in
theorem shut_true {H : Type} {enc : TypeId × Value → H} {W' : World} {b : Nat} {sp : Nat → Bool} {hd : Bool} : DataW.TrodAll enc Tryd.prog W' b sp hd [4] [.bool true] [.lit (.bool true)] [] :=
  trodAll_mk1 (shut_bool Tryd.underlying4 true)

set_option maxRecDepth 100000 in
/-- THE LIFT: from the contract on the law's Go function to what the row's builder wants. -/
theorem lift {f : FuncId} {fn : Func} {s : ChangeSpec} {os : Os} {H : Type} {enc : TypeId × Value → H} {handsOn again : Bool} (started : os.Started) (k : Nat)
    (noInit : Tryd.checked.prog.inits.idxOf? f = none) (hfn : Tryd.prog.funcs[f]? = some fn) (hvars : s.vars = []) (hlen : fn.params.toList.length = k)
    (hspec : ∀ ds : List (DataW H), ds.length = k → s.fn H ds = { results := [.lit (.bool true)], args := ds })
    (ht : fn.params.toList.all (fun t => Tryd.prog.readableRec t && decide (t < Tryd.prog.types.size)) = true) (hr : fn.resultTypes = #[4])
    (args0 : Array Value)
    (hok : Input.okWideB Tryd.checked.prog ((World.doorLaid Tryd.prog 400 os).forCall (fun _ _ => 0) ⟨#[], args0, []⟩) f ⟨#[], args0, []⟩ = true)
    (hpre : s.preB enc Tryd.checked.prog fn [] false ((World.doorLaid Tryd.prog 400 os).forCall (fun _ _ => 0) ⟨#[], args0, []⟩).memory args0 8 = true)
    (hsz : s.sizedB enc Tryd.checked.prog fn false ((World.doorLaid Tryd.prog 400 os).forCall (fun _ _ => 0) ⟨#[], args0, []⟩).memory args0 8 = true)
    (contract : ∀ (W : World) (base : Nat) (args : Array Value) (ds : List (DataW H)) (ps : List MemPlace), Tab W →
      (∀ (j : Nat) t v, fn.params[j]? = some t → args[j]? = some v → Value.okWide Tryd.prog W .any base t v) →
      DataW.TrodAll enc Tryd.prog W 0 (fun _ => true) true fn.params.toList args.toList ds ps → (∀ p ∈ ps, p.block < W.heap.size) → 
      Calls Tryd.prog f args W fun e W' => e = .returned (.bool true) ∧ Below W.heap.size W W') :
    ReturnsInHanded {} Tryd.checked os f .any (fun w args => (s.pre enc Tryd.prog fn [] false w args ∧ laidMetH Tryd.prog laid2 w) ∧ sizedMet enc Tryd.prog fn (OpenSpec.ofChange s) false w args) (s.post enc Tryd.prog fn false true handsOn again) := by
  refine returnsInHanded_of_change_and (C := Tryd.checked) (X := fun w _ => laidMetH Tryd.prog laid2 w) (fun _ _ _ hh h => h.of_heap hh) own_none started noInit hfn
    (ChangeSpec.witness_shaped (enc := enc) (C := Tryd.checked) (os := os) (X := fun w _ => laidMetH Tryd.prog laid2 w) false (World.doorLaid Tryd.prog 400 os) args0 8 rfl (World.shaped_of_RefB (by kernel_rfl) (by kernel_rfl)) hok hpre hsz (door_met os _)) ?_
  intro W base args ds gs before hval hW hcnd _ hL _
  have hgs : gs = [] := by
    obtain ⟨p, q, _, hV, _⟩ := hW
    rw [hvars] at hV
    cases gs with
    | nil => rfl
    | cons _ _ => exact hV.elim
  subst hgs
  have hW' : DataW.Whole enc Tryd.prog fn.params.toList s.vars false W args.toList ds [] before := hW
  obtain ⟨p, q, hA, hV, hpq, hz, hn⟩ := hW'
  have hlt : ∀ x ∈ before, x.block < W.heap.size := fun x hx => hW.lt x hx
  have hspec' := hspec (ds ++ []) (by rw [List.append_nil, trodAll_length hA, hlen])
  refine (contract W base args ds p (tab_of_laid hL) hval hA (fun x hx => hlt x (by rw [hpq]; simp [hx]))).mono fun e W' ⟨he, hb⟩ => ?_
  subst he
  refine ⟨_, rfl, post_below hvars (by rw [hspec']; simp) (by rw [hspec']) laid_out ht hW (fun _ _ _ => ?_) hb (ok_one hr rfl (okWide_bool_mk Tryd.underlying4 _))⟩
  rw [hspec', hr]
  exact shut_true

/-- No type of the parameters wants a stand-in, asked of each by the kernel. -/
theorem no_stand_in {ts : List TypeId} (hall : (ts.all fun u => !Tryd.prog.wantsStandIn u) = true) (j : Nat) (t : TypeId) (ht : ts.toArray[j]? = some t) : Tryd.prog.wantsStandIn t = false := by
  have hm : t ∈ ts := by simpa using Array.mem_of_getElem? ht
  simpa using List.all_eq_true.1 hall t hm

end Go.Proofs.YteiidfklepjpmaaDoor

/-
  strings.Fields on bytes below 128: the kit's worked walk (NmFields), turned to this program's numbers.
-/
namespace Go.Proofs.YteiidfklepjpmaaDoor
open Go.RowKit

theorem infoStr : (Tryd.prog.info? 9).map (fun i => (i.zero, i.size, i.bytes)) = some (some (.string ByteArray.empty), 1, 16) := by kernel_rfl

theorem andNot00 : bits .and .i64 0 (bits .xor .i64 (-1) 0) = 0 := by decide
theorem andNot01 : bits .and .i64 0 (bits .xor .i64 (-1) 1) = 0 := by decide
theorem andNot10 : bits .and .i64 1 (bits .xor .i64 (-1) 0) = 1 := by decide
theorem andNot11 : bits .and .i64 1 (bits .xor .i64 (-1) 1) = 0 := by decide

set_option maxHeartbeats 16000000 in
set_option maxRecDepth 1000000 in
theorem fields_any (s : ByteArray) (w : World) (hs : s.size < 4294967281) (hascii : ∀ (j : Nat) b, s.data.toList[j]? = some b → b.toNat < 128)
    (hT : ∀ c : Nat, c < 256 → w.cell? ⟨0, c, none⟩ = some (.int .u8 (if Lib.isSp (UInt8.ofNat c) then 1 else 0))) :
    Calls Tryd.prog 48 #[.string s] w fun e w' =>
      e = .returned (.slice (some ⟨w.heap.size, 0, none⟩) (Lib.fields s.data.toList).length (Lib.fields s.data.toList).length) ∧ w' = w.alloc (.cells ((Lib.fields s.data.toList).map fun l => Value.string ⟨l.toArray⟩).toArray 9) := by
  have HA : Aside (∀ (j : Nat) b, s.data.toList[j]? = some b → b.toNat < 128) := hascii
  have HT : Aside (∀ c : Nat, c < 256 → w.cell? ⟨0, c, none⟩ = some (.int .u8 (if Lib.isSp (UInt8.ofNat c) then 1 else 0))) := hT
  have HT1 : Aside (∀ (o : Obj) (c : Nat), c < 256 → (w.alloc o).cell? ⟨0, c, none⟩ = some (.int .u8 (if Lib.isSp (UInt8.ofNat c) then 1 else 0))) := fun o c hc => by
    rw [World.cell?_alloc_old _ _ _ (Nat.ne_of_lt (World.block_lt_of_cell? _ _ (hT c hc)))]; exact hT c hc
  clear hascii hT
  obtain ⟨N, hN⟩ : ∃ N : Nat, (Lib.fields s.data.toList).length = N := ⟨_, rfl⟩
  rw [hN]
  have hNc : Lib.cntF true s.data.toList = N := by rw [← Lib.fields_length]; exact hN
  have hlen : s.data.toList.length = s.size := (Lib.size_eq s).symm
  go_enter Tryd.func48, Tryd.ntmps48
  go_wp2
  go_loopg [3, 4, 5, 6] s.size (fun g s3 s4 s5 s6 wx => w = wx ∧ ∃ (k nn sb : Nat) (ws : Bool), k ≤ s.size ∧ g = s.size - k ∧ s6 = .int .i64 k ∧ s3 = .int .i64 nn ∧ s4 = .int .i64 (if ws then 1 else 0) ∧ s5 = .int .u8 sb ∧ sb < 128 ∧ nn ≤ k ∧
    nn + Lib.cntF ws (s.data.toList.drop k) = N)
  case atStart => exact ⟨rfl, 0, 0, 0, true, Nat.zero_le _, rfl, rfl, rfl, rfl, rfl, by omega, Nat.le_refl _, by simpa using hNc⟩
  case round =>
    obtain ⟨rfl, k, nn, sb, ws, hk, rfl, rfl, rfl, rfl, rfl, hsb, hnk, hc⟩ := hrel
    by_cases hkn : k < s.size
    · have hkz : (k : Int) < (s.size : Int) := by omega
      obtain ⟨x, hx⟩ : ∃ x : UInt8, s[k] = x := ⟨_, rfl⟩
      have hxl : s.data.toList[k]? = some x := by rw [← hx]; exact Lib.data_getElem? s k hkn
      have hx128 : x.toNat < 128 := HA.out k x hxl
      have hxz : (x.toNat : Int) < 256 := by omega
      have hTx : w.cell? ⟨0, x.toNat, none⟩ = some (.int .u8 (if Lib.isSp x then 1 else 0)) := by have := HT.out x.toNat (by omega); simpa using this
      have hor : bits .or .u8 (sb : Int) (x.toNat : Int) = ((sb ||| x.toNat : Nat) : Int) := u8_or_nat _ _ (by omega) (by omega)
      have hor128 : sb ||| x.toNat < 128 := Nat.or_lt_two_pow (n := 7) hsb hx128
      rw [Lib.drop_at hxl, Lib.cntF_step] at hc
      have HC : Aside (nn + ((if ws && !Lib.isSp x then 1 else 0) + Lib.cntF (Lib.isSp x) (s.data.toList.drop (k + 1))) = N) := hc
      clear hc hxl
      have b00 := andNot00; have b01 := andNot01; have b10 := andNot10; have b11 := andNot11
      cases hsx : Lib.isSp x <;> cases ws <;> rw [hsx] at hTx <;> simp only [if_true, Bool.false_eq_true, if_false] at hTx ⊢ <;>
        (go_wp2
         go_roundg (s.size - (k + 1))
         case measure => omega
         case rel =>
           have hc := HC.out
           rw [hsx] at hc
           simp at hc
           first
             | exact ⟨rfl, k + 1, nn, sb ||| x.toNat, false, by omega, rfl, by first | rfl | simp, by first | rfl | (simp; unfold RowKit.wrap64; omega), rfl, by first | rfl | simp, hor128, by omega, by omega⟩
             | exact ⟨rfl, k + 1, nn + 1, sb ||| x.toNat, false, by omega, rfl, by first | rfl | simp, by first | rfl | (simp; unfold RowKit.wrap64; omega), rfl, by first | rfl | simp, hor128, by omega, by omega⟩
             | exact ⟨rfl, k + 1, nn, sb ||| x.toNat, true, by omega, rfl, by first | rfl | simp, by first | rfl | (simp; unfold RowKit.wrap64; omega), rfl, by first | rfl | simp, hor128, by omega, by omega⟩)
    · obtain rfl : k = s.size := by omega
      generalize (if ws = true then (1 : Int) else 0) = v4
      have hkz : ¬ ((s.size : Int) < (s.size : Int)) := by omega
      have hsbz : ¬ ((128 : Int) ≤ (sb : Int)) := by omega
      obtain rfl : N = nn := by rw [← hlen, List.drop_length] at hc; simpa [Lib.cntF] using hc.symm
      clear hc
      have hmk := run_make_row' (P := Tryd.prog) 84 9 (.string ByteArray.empty) 16 Tryd.underlying84 infoStr rfl .i64 .i64 N (by omega) (by omega)
      go_upto_block 2 with fail
      clear hmk
      rw [← Lib.cellsOf_nil]
      go_cut [12] from 42 to 55 (fun s12 wx => (w.alloc (.cells (Lib.cellsOf [] N) 9)) = wx ∧ ∃ i : Nat, i ≤ s.size ∧ s12 = .int .i64 i ∧ Lib.fieldsGo [] (s.data.toList.drop i) = Lib.fields s.data.toList ∧ ∀ y, s.data.toList[i]? = some y → Lib.isSp y = false)
      case first =>
        go_wp2_with fail
        go_loopg [12] s.size (fun g s12 wx => (w.alloc (.cells (Lib.cellsOf [] N) 9)) = wx ∧ ∃ i : Nat, i ≤ s.size ∧ g = s.size - i ∧ s12 = .int .i64 i ∧ Lib.fieldsGo [] (s.data.toList.drop i) = Lib.fields s.data.toList)
        case atStart => exact ⟨rfl, 0, Nat.zero_le _, rfl, rfl, rfl⟩
        case round =>
          obtain ⟨rfl, i, hi, rfl, rfl, hf⟩ := hrel
          have HF : Aside (Lib.fieldsGo [] (s.data.toList.drop i) = Lib.fields s.data.toList) := hf
          clear hf
          by_cases hin : i < s.size
          · have hiz : (i : Int) < (s.size : Int) := by omega
            obtain ⟨x, hx⟩ : ∃ x : UInt8, s[i] = x := ⟨_, rfl⟩
            have hxl : s.data.toList[i]? = some x := by rw [← hx]; exact Lib.data_getElem? s i hin
            have hx128 : x.toNat < 128 := HA.out i x hxl
            have hxz : (x.toNat : Int) < 256 := by omega
            have hTx : (w.alloc (.cells (Lib.cellsOf [] N) 9)).cell? ⟨0, x.toNat, none⟩ = some (.int .u8 (if Lib.isSp x then 1 else 0)) := by have := HT1.out (.cells (Lib.cellsOf [] N) 9) x.toNat (by omega); simpa using this
            have Hx : Aside (s.data.toList[i]? = some x) := hxl
            clear hxl
            cases hsx : Lib.isSp x <;> rw [hsx] at hTx <;> simp only [if_true, Bool.false_eq_true, if_false] at hTx
            · go_wp2
              go_meet
              exact ⟨rfl, i, hi, rfl, HF.out, fun y hy => by rw [Hx.out] at hy; cases hy; exact hsx⟩
            · go_wp2
              go_roundg (s.size - (i + 1))
              case measure => omega
              case rel => exact ⟨rfl, i + 1, by omega, rfl, by first | rfl | simp, by rw [← HF.out, Lib.drop_at Hx.out, Lib.fieldsGo_sp _ _ hsx]⟩
          · obtain rfl : i = s.size := by omega
            have hiz : ¬ ((s.size : Int) < (s.size : Int)) := by omega
            go_wp2
            go_meet
            exact ⟨rfl, s.size, Nat.le_refl _, rfl, HF.out, fun y hy => by rw [List.getElem?_eq_none (by omega)] at hy; cases hy⟩
      case rest =>
        obtain ⟨rfl, i0, hi0, rfl, hf0, hns0⟩ := hcut
        have H0 : Aside (Lib.fieldsGo [] (s.data.toList.drop i0) = Lib.fields s.data.toList ∧ ∀ y, s.data.toList[i0]? = some y → Lib.isSp y = false) := ⟨hf0, hns0⟩
        clear hf0 hns0
        go_wp2
        go_loopg [10, 11, 12] (s.size - i0) (fun g s10 s11 s12 wx => ∃ (done : List ByteArray) (fs i : Nat), s10 = .int .i64 done.length ∧ s11 = .int .i64 fs ∧ s12 = .int .i64 i ∧ fs ≤ i ∧ i ≤ s.size ∧ g = s.size - i ∧ wx = (w.alloc (.cells (Lib.cellsOf done N) 9)) ∧
          done.map (·.data.toList) ++ Lib.fieldsGo ((s.data.toList.drop fs).take (i - fs)) (s.data.toList.drop i) = Lib.fields s.data.toList ∧ (fs = i → ∀ y, s.data.toList[i]? = some y → Lib.isSp y = false))
        case atStart => exact ⟨[], i0, i0, rfl, rfl, rfl, Nat.le_refl _, hi0, rfl, rfl, by rw [Lib.piece_nil]; exact H0.out.1, fun _ => H0.out.2⟩
        case round =>
          obtain ⟨done, fs, i, rfl, rfl, rfl, hfi, hi, rfl, rfl, hinv, hside⟩ := hrel
          clear H0
          by_cases hin : i < s.size
          · have hiz : (i : Int) < (s.size : Int) := by omega
            obtain ⟨x, hx⟩ : ∃ x : UInt8, s[i] = x := ⟨_, rfl⟩
            have hxl : s.data.toList[i]? = some x := by rw [← hx]; exact Lib.data_getElem? s i hin
            have hx128 : x.toNat < 128 := HA.out i x hxl
            have hxz : (x.toNat : Int) < 256 := by omega
            have hTx : (w.alloc (.cells (Lib.cellsOf done N) 9)).cell? ⟨0, x.toNat, none⟩ = some (.int .u8 (if Lib.isSp x then 1 else 0)) := by have := HT1.out (.cells (Lib.cellsOf done N) 9) x.toNat (by omega); simpa using this
            have Hx : Aside (s.data.toList[i]? = some x) := hxl
            clear hxl
            cases hsx : Lib.isSp x <;> rw [hsx] at hTx <;> simp only [if_true, Bool.false_eq_true, if_false] at hTx
            · -- a byte of a field: 'i++; continue'
              have HI : Aside (done.map (·.data.toList) ++ Lib.fieldsGo ((s.data.toList.drop fs).take (i - fs)) (s.data.toList.drop i) = Lib.fields s.data.toList) := hinv
              clear hinv hside
              go_wp2
              go_roundg (s.size - (i + 1))
              case measure => omega
              case rel => exact ⟨done, fs, i + 1, rfl, rfl, by first | rfl | simp, by omega, by omega, rfl, rfl, by rw [Lib.piece_more hfi Hx.out, ← Lib.fieldsGo_more _ _ _ hsx, ← Lib.drop_at Hx.out]; exact HI.out, fun h => by omega⟩
            · -- white space: the field ends here: 'a[na] = s[fieldStart:i]; na++; i++'
              have hlt : fs < i := by
                refine Nat.lt_of_le_of_ne hfi fun h => ?_
                have := hside h x Hx.out
                rw [hsx] at this
                cases this
              rw [Lib.drop_at Hx.out, Lib.fieldsGo_end _ _ _ hsx (Lib.piece_ne hlt (by omega))] at hinv
              have hdN : done.length < N := by
                have := congrArg List.length hinv
                rw [hN] at this
                simp at this
                omega
              have hnext : (Lib.cellsOf done N)[done.length]? = some (.string ByteArray.empty) := Lib.cellsOf_next hdN
              have hdz : ((done.length : Nat) : Int) < (N : Int) := by omega
              have c1 : (fs : Int) ≤ (i : Int) := by omega
              have c2 : (i : Int) ≤ (s.size : Int) := by omega
              have HI : Aside ((done ++ [s.extract fs i]).map (·.data.toList) ++ Lib.fieldsGo [] (s.data.toList.drop (i + 1)) = Lib.fields s.data.toList) := by
                show _ = _
                rw [← hinv, List.map_append, List.map_cons, List.map_nil, Lib.extract_data]
                simp
              clear hinv hside
              go_wp2
              rw [Lib.cellsOf_set hdN]
              clear hnext hTx
              go_loopg [12] (s.size - (i + 1)) (fun g s12 wx => (w.alloc (.cells (Lib.cellsOf (done ++ [s.extract fs i]) N) 9)) = wx ∧ ∃ j : Nat, i + 1 ≤ j ∧ j ≤ s.size ∧ g = s.size - j ∧ s12 = .int .i64 j ∧ Lib.fieldsGo [] (s.data.toList.drop j) = Lib.fieldsGo [] (s.data.toList.drop (i + 1)))
              case atStart => exact ⟨rfl, i + 1, Nat.le_refl _, by omega, rfl, by first | rfl | simp, rfl⟩
              case round =>
                obtain ⟨rfl, j, hij, hj, rfl, rfl, hfj⟩ := hrel
                have HJ : Aside (Lib.fieldsGo [] (s.data.toList.drop j) = Lib.fieldsGo [] (s.data.toList.drop (i + 1))) := hfj
                clear hfj hx Hx hx128 hxz hsx
                by_cases hjn : j < s.size
                · have hjz : (j : Int) < (s.size : Int) := by omega
                  obtain ⟨x, hx⟩ : ∃ x : UInt8, s[j] = x := ⟨_, rfl⟩
                  have hxl : s.data.toList[j]? = some x := by rw [← hx]; exact Lib.data_getElem? s j hjn
                  have hx128 : x.toNat < 128 := HA.out j x hxl
                  have hxz : (x.toNat : Int) < 256 := by omega
                  have hTx : (w.alloc (.cells (Lib.cellsOf (done ++ [s.extract fs i]) N) 9)).cell? ⟨0, x.toNat, none⟩ = some (.int .u8 (if Lib.isSp x then 1 else 0)) := by have := HT1.out (.cells (Lib.cellsOf (done ++ [s.extract fs i]) N) 9) x.toNat (by omega); simpa using this
                  have Hx : Aside (s.data.toList[j]? = some x) := hxl
                  clear hxl
                  cases hsx : Lib.isSp x <;> rw [hsx] at hTx <;> simp only [if_true, Bool.false_eq_true, if_false] at hTx
                  · go_wp2
                    go_roundg (s.size - j)
                    case measure => omega
                    case rel => exact ⟨done ++ [s.extract fs i], j, j, by simp, rfl, rfl, Nat.le_refl _, hj, rfl, rfl, by rw [Lib.piece_nil, HJ.out]; exact HI.out, fun _ y hy => by rw [Hx.out] at hy; cases hy; exact hsx⟩
                  · go_wp2
                    go_roundg (s.size - (j + 1))
                    case measure => omega
                    case rel => exact ⟨rfl, j + 1, by omega, by omega, rfl, by first | rfl | simp, by rw [← HJ.out, Lib.drop_at Hx.out, Lib.fieldsGo_sp _ _ hsx]⟩
                · obtain rfl : j = s.size := by omega
                  have hjz : ¬ ((s.size : Int) < (s.size : Int)) := by omega
                  go_wp2
                  go_roundg (s.size - s.size)
                  case measure => omega
                  case rel => exact ⟨done ++ [s.extract fs i], s.size, s.size, by simp, rfl, rfl, Nat.le_refl _, Nat.le_refl _, rfl, rfl, by rw [Lib.piece_nil, HJ.out]; exact HI.out, fun _ y hy => by rw [List.getElem?_eq_none (by omega)] at hy; cases hy⟩
          · -- the string's end: 'if fieldStart < len(s) { a[na] = s[fieldStart:] }; return a'
            obtain rfl : i = s.size := by omega
            have hiz : ¬ ((s.size : Int) < (s.size : Int)) := by omega
            rw [← hlen, List.drop_length, hlen] at hinv
            clear hside
            by_cases hfl : fs < s.size
            · have hflz : (fs : Int) < (s.size : Int) := by omega
              have hne := Lib.piece_ne (l := s.data.toList) hfl (by omega)
              have e1 : Lib.fieldsGo ((s.data.toList.drop fs).take (s.size - fs)) [] = [(s.data.toList.drop fs).take (s.size - fs)] := by
                cases hc : (s.data.toList.drop fs).take (s.size - fs) with
                | nil => exact absurd hc hne
                | cons _ _ => rfl
              rw [e1] at hinv
              have hfin : (done ++ [s.extract fs s.size]).map (·.data.toList) = Lib.fields s.data.toList := by rw [← hinv, List.map_append, List.map_cons, List.map_nil, Lib.extract_data]
              have hdN : done.length + 1 = N := by
                have := congrArg List.length hfin
                rw [hN] at this
                simpa using this
              have hnext : (Lib.cellsOf done N)[done.length]? = some (.string ByteArray.empty) := Lib.cellsOf_next (by omega)
              have hdz : ((done.length : Nat) : Int) < (N : Int) := by omega
              have HFin : Aside ((done ++ [s.extract fs s.size]).map (·.data.toList) = Lib.fields s.data.toList) := hfin
              clear hinv hfin e1 hne
              go_wp2
              go_ret
              refine ⟨rfl, ?_⟩
              rw [Lib.cellsOf_set (by omega), ← Lib.pieces_eq HFin.out, ← Lib.cellsOf_full]
              congr 3
              simp; omega
            · obtain rfl : fs = s.size := by omega
              have hflz : ¬ ((s.size : Int) < (s.size : Int)) := by omega
              rw [Lib.piece_nil] at hinv
              have hfin : done.map (·.data.toList) = Lib.fields s.data.toList := by simpa [Lib.fieldsGo] using hinv
              have hdN : done.length = N := by
                have := congrArg List.length hfin
                rw [hN] at this
                simpa using this
              have HFin : Aside (done.map (·.data.toList) = Lib.fields s.data.toList) := hfin
              clear hinv hfin
              go_wp2
              go_ret
              refine ⟨rfl, ?_⟩
              rw [← Lib.pieces_eq HFin.out, ← Lib.cellsOf_full, hdN]

end Go.Proofs.YteiidfklepjpmaaDoor

/-
  Layout, in plain numbers: which word stands where.
-/
namespace Go.Proofs.YteiidfklepjpmaaDoor

/-- A configuration that may be. -/
def cfgOk (s t f l p : Int) : Bool := decide (1 ≤ s ∧ s ≤ 1000 ∧ 1 ≤ t ∧ t ≤ 64 ∧ 4 ≤ f ∧ f ≤ 64 ∧ 1 ≤ l ∧ l ≤ 64 ∧ 1 ≤ p ∧ p ≤ 1048576)
theorem cfgOk_iff {s t f l p : Int} : cfgOk s t f l p = true ↔ (1 ≤ s ∧ s ≤ 1000 ∧ 1 ≤ t ∧ t ≤ 64 ∧ 4 ≤ f ∧ f ≤ 64 ∧ 1 ≤ l ∧ l ≤ 64 ∧ 1 ≤ p ∧ p ≤ 1048576) := by unfold cfgOk; simp

/-- How many words there are. -/
def laySize (s t f : Int) : Int := 3 + 3 * t + (s + 1) * (3 + 2 * f)
/-- A word's place. -/
def plc (s t f a : Int) : Int × Int × Int :=
  if a < 0 ∨ laySize s t f ≤ a then (0, 0, 0)
  else if a < 3 then (a + 1, 0, 0)
  else if a < 3 + t then (4, a - 3, 0)
  else if a < 3 + 3 * t then (5, (a - 3 - t) / 2, (a - 3 - t) % 2)
  else if (a - (3 + 3 * t)) % (3 + 2 * f) < 3 then (6 + (a - (3 + 3 * t)) % (3 + 2 * f), (a - (3 + 3 * t)) / (3 + 2 * f), 0)
  else if (a - (3 + 3 * t)) % (3 + 2 * f) < 3 + f then (9, (a - (3 + 3 * t)) / (3 + 2 * f), (a - (3 + 3 * t)) % (3 + 2 * f) - 3)
  else (10, (a - (3 + 3 * t)) / (3 + 2 * f), (a - (3 + 3 * t)) % (3 + 2 * f) - 3 - f)

/-- A node's word: its number within the node, and how many such there are; the number of a place's word. -/
def nodAt (f k : Int) : Int := if k = 6 then 0 else if k = 7 then 1 else if k = 8 then 2 else if k = 9 then 3 else 3 + f
def nodMany (f k : Int) : Int := if k = 9 ∨ k = 10 then f else 1
def nod (s t f k o i : Int) : Int :=
  if k < 6 ∨ 10 < k ∨ o < 0 ∨ s + 1 ≤ o ∨ i < 0 ∨ nodMany f k ≤ i then -1 else 3 + 3 * t + o * (3 + 2 * f) + nodAt f k + i
def atp (s t f k o i : Int) : Int :=
  if 1 ≤ k ∧ k ≤ 3 ∧ o = 0 ∧ i = 0 then k - 1
  else if k = 4 ∧ i = 0 ∧ 0 ≤ o ∧ o < t then 3 + o
  else if k = 5 ∧ 0 ≤ i ∧ i < 2 ∧ 0 ≤ o ∧ o < t then 3 + t + 2 * o + i
  else nod s t f k o i

theorem size_pos {s t f : Int} (hs : 1 ≤ s ∧ s ≤ 1000) (ht : 1 ≤ t ∧ t ≤ 64) (hf : 4 ≤ f ∧ f ≤ 64) : 3 + 3 * t < laySize s t f ∧ laySize s t f ≤ 131326 := by
  unfold laySize
  have h1 : 0 < (s + 1) * (3 + 2 * f) := Int.mul_pos (by omega) (by omega)
  have h2 : (s + 1) * (3 + 2 * f) ≤ 1001 * 131 := Int.mul_le_mul (by omega) (by omega) (by omega) (by omega)
  omega

/-- The parts of a number below a product. -/
theorem div_parts {d W n : Int} (hW : 0 < W) (h0 : 0 ≤ d) (h1 : d < n * W) : 0 ≤ d / W ∧ d / W < n ∧ 0 ≤ d % W ∧ d % W < W ∧ d = d / W * W + d % W := by
  have e := Int.mul_ediv_add_emod d W
  exact ⟨Int.ediv_nonneg h0 (by omega), Int.ediv_lt_of_lt_mul hW h1, Int.emod_nonneg _ (by omega), Int.emod_lt_of_pos _ hW, by rw [Int.mul_comm]; exact e.symm⟩
theorem div_back {o W j : Int} (h0 : 0 ≤ j) (h1 : j < W) : (o * W + j) / W = o ∧ (o * W + j) % W = j := by
  rw [Int.add_comm, Int.add_mul_ediv_right _ _ (by omega), Int.add_mul_emod_self_right]
  rw [Int.ediv_eq_zero_of_lt h0 h1, Int.emod_eq_of_lt h0 h1]
  exact ⟨by omega, rfl⟩

/-- Each word's place leads back to it. -/
theorem atp_plc {s t f a : Int} (hs : 1 ≤ s ∧ s ≤ 1000) (ht : 1 ≤ t ∧ t ≤ 64) (hf : 4 ≤ f ∧ f ≤ 64) :
    atp s t f (plc s t f a).1 (plc s t f a).2.1 (plc s t f a).2.2 = if a < 0 ∨ laySize s t f ≤ a then -1 else a := by
  have hz := size_pos hs ht hf
  unfold plc
  by_cases c0 : a < 0 ∨ laySize s t f ≤ a
  · rw [if_pos c0, if_pos c0]
    simp [atp, nod]
  rw [if_neg c0, if_neg c0]
  by_cases c1 : a < 3
  · rw [if_pos c1]
    unfold atp
    rw [if_pos (by simp; omega)]
    simp
  rw [if_neg c1]
  by_cases c2 : a < 3 + t
  · rw [if_pos c2]
    unfold atp
    rw [if_neg (by simp), if_pos (by simp; omega)]
    simp
    omega
  rw [if_neg c2]
  by_cases c3 : a < 3 + 3 * t
  · rw [if_pos c3]
    unfold atp
    rw [if_neg (by simp), if_neg (by simp), if_pos (by simp; omega)]
    simp
    omega
  rw [if_neg c3]
  have hd := div_parts (d := a - (3 + 3 * t)) (W := 3 + 2 * f) (n := s + 1) (by omega) (by omega) (by unfold laySize at c0; omega)
  generalize (a - (3 + 3 * t)) / (3 + 2 * f) = o at *
  generalize (a - (3 + 3 * t)) % (3 + 2 * f) = j at *
  obtain ⟨d1, d2, d3, d4, d5⟩ := hd
  by_cases c4 : j < 3
  · rw [if_pos c4]
    have hj : j = 0 ∨ j = 1 ∨ j = 2 := by omega
    unfold atp nod nodMany nodAt
    rw [if_neg (by simp; omega), if_neg (by simp; omega), if_neg (by simp; omega)]
    rcases hj with rfl | rfl | rfl
    all_goals
      simp
      rw [if_neg (by omega)]
      omega
  rw [if_neg c4]
  by_cases c5 : j < 3 + f
  · rw [if_pos c5]
    unfold atp nod nodMany nodAt
    simp
    rw [if_neg (by omega)]
    omega
  · rw [if_neg c5]
    unfold atp nod nodMany nodAt
    simp
    rw [if_neg (by omega)]
    omega
end Go.Proofs.YteiidfklepjpmaaDoor

/-
  Package config: all, check, Right; gleaningref07: Numbers, Wrong.
-/
namespace Go.Proofs.YteiidfklepjpmaaDoor
open Go.RowKit

/-- The numbers of a configuration, and their bounds. -/
def cN (s t f l p : Int) (k : Nat) : Int := [s, t, f, l, p].getD k 0
def cLo (k : Nat) : Int := [(1 : Int), 1, 4, 1, 1].getD k 0
def cHi (k : Nat) : Int := [(1000 : Int), 64, 64, 64, 1048576].getD k 0
def cIn (s t f l p : Int) (k : Nat) : Prop := cLo k ≤ cN s t f l p k ∧ cN s t f l p k ≤ cHi k
theorem five {k : Nat} (h : k < 5) : k = 0 ∨ k = 1 ∨ k = 2 ∨ k = 3 ∨ k = 4 := by omega
theorem cfg_all {s t f l p : Int} (h : ∀ k, k < 5 → cIn s t f l p k) : cfgOk s t f l p = true := by
  have h0 : 1 ≤ s ∧ s ≤ 1000 := h 0 (by omega)
  have h1 : 1 ≤ t ∧ t ≤ 64 := h 1 (by omega)
  have h2 : 4 ≤ f ∧ f ≤ 64 := h 2 (by omega)
  have h3 : 1 ≤ l ∧ l ≤ 64 := h 3 (by omega)
  have h4 : 1 ≤ p ∧ p ≤ 1048576 := h 4 (by omega)
  rw [cfgOk_iff]
  omega
theorem cfg_no {s t f l p : Int} {k : Nat} (hk : k < 5) (h : ¬ cIn s t f l p k) : cfgOk s t f l p = false := by
  rw [Bool.eq_false_iff]
  intro e
  rw [cfgOk_iff] at e
  apply h
  unfold cIn
  rcases five hk with rfl | rfl | rfl | rfl | rfl
  · show 1 ≤ s ∧ s ≤ 1000; omega
  · show 1 ≤ t ∧ t ≤ 64; omega
  · show 4 ≤ f ∧ f ≤ 64; omega
  · show 1 ≤ l ∧ l ≤ 64; omega
  · show 1 ≤ p ∧ p ≤ 1048576; omega

def I64s (s t f l p : Int) : Prop := I64 s ∧ I64 t ∧ I64 f ∧ I64 l ∧ I64 p
theorem cN_I64 {s t f l p : Int} (h : I64s s t f l p) {k : Nat} (hk : k < 5) : I64 (cN s t f l p k) := by
  obtain ⟨h0, h1, h2, h3, h4⟩ := h
  rcases five hk with rfl | rfl | rfl | rfl | rfl
  · exact h0
  · exact h1
  · exact h2
  · exact h3
  · exact h4
def bndA (s t f l p : Int) : Array Value := #[.int .i64 s, .int .i64 1, .int .i64 1000, .int .i64 t, .int .i64 1, .int .i64 64, .int .i64 f, .int .i64 4, .int .i64 64, .int .i64 l, .int .i64 1, .int .i64 64, .int .i64 p, .int .i64 1, .int .i64 1048576]
theorem bndA_at (s t f l p : Int) {k : Nat} (hk : k < 5) : (bndA s t f l p)[k * 3]? = some (.int .i64 (cN s t f l p k)) ∧ (bndA s t f l p)[k * 3 + 1]? = some (.int .i64 (cLo k)) ∧ (bndA s t f l p)[k * 3 + 2]? = some (.int .i64 (cHi k)) := by
  rcases five hk with rfl | rfl | rfl | rfl | rfl
  all_goals exact ⟨rfl, rfl, rfl⟩
def numA (s t f l p : Int) : Array Value := #[.int .i64 s, .int .i64 t, .int .i64 f, .int .i64 l, .int .i64 p]
theorem numA_at (s t f l p : Int) {k : Nat} (hk : k < 5) : (numA s t f l p)[k]? = some (.int .i64 (cN s t f l p k)) := by
  rcases five hk with rfl | rfl | rfl | rfl | rfl
  all_goals rfl
theorem lo_at {k : Nat} (hk : k < 5) : (numA 1 1 4 1 1)[k]? = some (.int .i64 (cLo k)) := by
  rcases five hk with rfl | rfl | rfl | rfl | rfl
  all_goals rfl
theorem hi_at {k : Nat} (hk : k < 5) : (numA 1000 64 64 64 1048576)[k]? = some (.int .i64 (cHi k)) := by
  rcases five hk with rfl | rfl | rfl | rfl | rfl
  all_goals rfl

set_option maxHeartbeats 400000 in
theorem call_any (s t f l p : Int) (w : World) :
    Calls Tryd.prog 49 #[.agg #[.int .i64 s, .int .i64 t, .int .i64 f, .int .i64 l, .int .i64 p]] w fun e w' => (∃ g, e = .returned (.slice (some ⟨g, 0, none⟩) 5 5) ∧ Blk w' g 89 (bndA s t f l p)) ∧ Below w.heap.size w w' := by
  go_enter Tryd.func49, Tryd.ntmps49
  go_wp2_with fail
  go_ret
  have h := fun o => Blk.new (w.alloc o) 89 (bndA s t f l p)
  simp only [World.size_alloc] at h
  exact ⟨⟨_, rfl, h _⟩, ((Below.refl _ _).alloc (Nat.le_refl _) _).alloc (by simp only [World.size_alloc]; omega) _⟩

def wordsB : ByteArray := ⟨#[115, 108, 111, 116, 115, 32, 116, 104, 114, 101, 97, 100, 115, 32, 102, 97, 110, 32, 108, 105, 109, 98, 111, 32, 112, 97, 116, 105, 101, 110, 99, 101]⟩
theorem fieldsW (w : World) (hT : Tab w) :
    Calls Tryd.prog 48 #[.string wordsB] w fun e w' => (∃ g cs, e = .returned (.slice (some ⟨g, 0, none⟩) 5 5) ∧ Blk w' g 9 cs ∧ ∀ k, k < 5 → ∃ x, cs[k]? = some (.string x)) ∧ Below w.heap.size w w' := by
  have hasc : ∀ (j : Nat) b, wordsB.data.toList[j]? = some b → b.toNat < 128 := by
    intro j b hb
    have hm := List.mem_of_getElem? hb
    have hall : (wordsB.data.toList.all fun b => decide (b.toNat < 128)) = true := by decide
    simpa using List.all_eq_true.1 hall b hm
  refine (fields_any wordsB w (by decide) hasc (fun c hc => hT.2 c hc)).mono ?_
  rintro e w' ⟨rfl, rfl⟩
  have hl : (Lib.fields wordsB.data.toList).length = 5 := by decide
  rw [hl]
  refine ⟨⟨_, _, rfl, Blk.new _ _ _, fun k hk => ?_⟩, (Below.refl _ _).alloc (Nat.le_refl _) _⟩
  have hk2 : k < (Lib.fields wordsB.data.toList).length := by omega
  exact ⟨_, by rw [List.getElem?_toArray, List.getElem?_map, List.getElem?_eq_getElem hk2]; rfl⟩

def ChkIn (w : World) (P : Nat → Prop) (i : Value) (wr : World) : Prop := ∃ k : Nat, i = .int .i64 k ∧ k ≤ 5 ∧ (∀ j, j < k → P j) ∧ Below w.heap.size w wr
/-- An error, or none. -/
def ErrIs (ok : Bool) (v : Value) : Prop := if ok = true then v = .nilIface else ∃ a, v = .iface 90 (.pointer (some a))

set_option maxHeartbeats 1000000 in
theorem check_any (s t f l p : Int) (w : World) (hT : Tab w) :
    Calls Tryd.prog 40 #[.agg #[.int .i64 s, .int .i64 t, .int .i64 f, .int .i64 l, .int .i64 p]] w fun e w' => (∃ v, e = .returned v ∧ ErrIs (cfgOk s t f l p) v) ∧ Below w.heap.size w w' := by
  have F := hide (fun w2 (hb : Below w.heap.size w w2) => fieldsW w2 (hT.below hb))
  have C := hide (fun w2 => call_any s t f l p w2)
  have bx := Blk.new w 23 #[.int .i64 s, .int .i64 t, .int .i64 f, .int .i64 l, .int .i64 p]
  go_enter Tryd.func40, Tryd.ntmps40
  go_wp2_with fail
  have B0 := (Below.refl w.heap.size w).alloc (Nat.le_refl _) (.cells #[.int .i64 s, .int .i64 t, .int .i64 f, .int .i64 l, .int .i64 p] 23)
  refine (F.out _ B0).mono ?_
  rintro e w1 ⟨⟨g1, cs, rfl, b1, hcs⟩, hb1⟩
  have B1 := B0.trans (hb1.mono B0.size)
  have bx1 := bx.below hb1 bx.lt
  have m1 := fun i => bx1.cell i
  have HCS := hide hcs
  have HB1 := hide b1
  clear hcs b1 hb1
  go_wp2_with fail
  refine (C.out _).mono ?_
  rintro e w2 ⟨⟨g2, rfl, b2⟩, hb2⟩
  have B2 := B1.trans (hb2.mono B1.size)
  have b1 := HB1.out.below hb2 HB1.out.lt
  have H1 := hide b1
  have H2 := hide b2
  have HB2 := hide B2
  clear b1 b2 hb2 m1 bx1 HB1 B1 B2
  go_wp2_with fail
  go_loopw [10] (ChkIn w2 (cIn s t f l p)) (fun i _ => 5 - (intOf i).toNat)
  case atStart => exact ⟨0, rfl, by omega, fun j h => absurd h (by omega), Below.refl _ _⟩
  case round =>
    obtain ⟨k, rfl, hk, hok, hb⟩ := hrel
    have HOK := hide hok
    clear hok
    by_cases hlt : k < 5
    · obtain ⟨x, hx⟩ := HCS.out k hlt
      obtain ⟨e0, e1, e2⟩ := bndA_at s t f l p hlt
      have b2 := H2.out.below hb H2.out.lt
      have b1 := H1.out.below hb H1.out.lt
      have z0 := (b2.cell (k * 3)).trans e0
      have z1 := (b2.cell (k * 3 + 1)).trans e1
      have z2 := (b2.cell (k * 3 + 2)).trans e2
      have z3 := (b1.cell k).trans hx
      have HI := hide (show cIn s t f l p k ↔ (cLo k ≤ cN s t f l p k ∧ cN s t f l p k ≤ cHi k) from Iff.rfl)
      have HN := hide (fun h => cfg_no (s := s) (t := t) (f := f) (l := l) (p := p) hlt h)
      have y1 := b1.lt
      clear e0 e1 e2 hx b1 b2
      generalize cN s t f l p k = n at *
      generalize cLo k = lo at *
      generalize cHi k = hi at *
      have hz := hb.size
      by_cases c1 : n < lo
      · have E := hide (HN.out (fun h => by have := HI.out.1 h; omega))
        go_wp2_with fail
        go_ret
        refine ⟨⟨_, rfl, ?_⟩, ?_⟩
        · rw [E.out]
          exact ⟨_, rfl⟩
        · have B9 := HB2.out.trans (hb.mono HB2.out.size)
          exact (B9.alloc B9.size _).alloc (by have := B9.size; simp only [World.size_alloc]; omega) _
      by_cases c2 : hi < n
      · have E := hide (HN.out (fun h => by have := HI.out.1 h; omega))
        go_wp2_with fail
        go_ret
        refine ⟨⟨_, rfl, ?_⟩, ?_⟩
        · rw [E.out]
          exact ⟨_, rfl⟩
        · have B9 := HB2.out.trans (hb.mono HB2.out.size)
          exact (B9.alloc B9.size _).alloc (by have := B9.size; simp only [World.size_alloc]; omega) _
      · have E := hide (HI.out.2 ⟨by omega, by omega⟩)
        go_wp2_with fail
        go_roundw
        case rel => exact ⟨k + 1, by go_num, by omega, fun j hj => by
          by_cases e : j = k
          · subst e
            exact E.out
          · exact HOK.out j (by omega), hb.alloc hz _⟩
        case measure => simp [intOf]; omega
    · obtain rfl : k = 5 := by omega
      have E := hide (cfg_all HOK.out)
      go_wp2_with fail
      go_ret
      exact ⟨⟨_, rfl, by rw [E.out]; rfl⟩, HB2.out.trans (hb.mono HB2.out.size)⟩

set_option maxHeartbeats 400000 in
theorem cright_any (s t f l p : Int) (w : World) (hT : Tab w) :
    Calls Tryd.prog 17 #[.agg #[.int .i64 s, .int .i64 t, .int .i64 f, .int .i64 l, .int .i64 p]] w fun e w' => e = .returned (.bool (cfgOk s t f l p)) ∧ Below w.heap.size w w' := by
  have C := hide (fun w2 (hb : Below w.heap.size w w2) => check_any s t f l p w2 (hT.below hb))
  generalize cfgOk s t f l p = ok at *
  cases ok
  · go_enter Tryd.func17, Tryd.ntmps17
    go_wp2_with fail
    have B0 := (Below.refl w.heap.size w).alloc (Nat.le_refl _) (.cells #[.int .i64 s, .int .i64 t, .int .i64 f, .int .i64 l, .int .i64 p] 23)
    refine (C.out _ B0).mono ?_
    rintro e w1 ⟨⟨v, rfl, a, rfl⟩, hb1⟩
    have B1 := B0.trans (hb1.mono B0.size)
    go_wp2_with fail
    go_ret
    exact ⟨rfl, B1⟩
  · go_enter Tryd.func17, Tryd.ntmps17
    go_wp2_with fail
    have B0 := (Below.refl w.heap.size w).alloc (Nat.le_refl _) (.cells #[.int .i64 s, .int .i64 t, .int .i64 f, .int .i64 l, .int .i64 p] 23)
    refine (C.out _ B0).mono ?_
    rintro e w1 ⟨⟨v, rfl, hv⟩, hb1⟩
    obtain rfl : v = .nilIface := hv
    have B1 := B0.trans (hb1.mono B0.size)
    go_wp2_with fail
    go_ret
    exact ⟨rfl, B1⟩
end Go.Proofs.YteiidfklepjpmaaDoor

/-
  Regions that draw their order and hold calls which only make memory: one walk in the order of the text serves every order.
-/
namespace Go.Proofs.YteiidfklepjpmaaDoor
open Go.RowKit

/-- The worlds that lie behind w: what w held below its heap's end is as it was. -/
def Bel (w : World) : Type := { w' : World // Below w.heap.size w w' }
def past (w : World) (x : Bel w) : World := x.1
instance (w : World) : Nonempty (Bel w) := ⟨⟨w, Below.refl _ _⟩⟩

theorem past_below (w : World) (x : Bel w) : Below w.heap.size w (past w x) := x.2
theorem past_cell {w : World} {x : Bel w} {b o : Nat} (h : b < w.heap.size) : (past w x).cell? ⟨b, o, none⟩ = w.cell? ⟨b, o, none⟩ := (past_below w x).cell (p := ⟨b, o, none⟩) h
theorem past_cell_add {w : World} {x : Bel w} {a : Addr} {n : Nat} (h : a.block < w.heap.size) : (past w x).cell? (a.add n) = w.cell? (a.add n) :=
  (past_below w x).cell (p := a.add n) (by unfold Addr.add; split <;> exact h)

section
variable {P : Program}
theorem calls_past {f : FuncId} {args : Array Value} {w : World} {x : Bel w} {v : Value}
    (h : Calls P f args (past w x) fun e w'' => e = .returned v ∧ Below (past w x).heap.size (past w x) w'') :
    Calls P f args (past w x) fun e w'' => e = .returned v ∧ ∃ y : Bel w, w'' = past w y :=
  h.mono fun _ w'' ⟨he, hb⟩ => ⟨he, ⟨w'', (past_below w x).trans (hb.mono (past_below w x).size)⟩, rfl⟩
theorem calls_past_same {f : FuncId} {args : Array Value} {w : World} {x : Bel w} {v : Value}
    (h : Calls P f args (past w x) fun e w'' => e = .returned v ∧ past w x = w'') :
    Calls P f args (past w x) fun e w'' => e = .returned v ∧ ∃ y : Bel w, w'' = past w y :=
  h.mono fun _ _ ⟨he, hb⟩ => ⟨he, x, hb.symm⟩

theorem wp_region_past {id : Nat} {Q : Exit → Act → World → Prop} {a : Act} {w : World} {l : List Oper} (hm : P.follows .mixedOrders = true) (hB : Region.lexB .any l.toArray = true)
    (h : wpQuiet P l.toArray (fun w' => ∃ x : Bel w, w' = past w x) (fun a' => ∀ w', (∃ x : Bel w, w' = past w x) → Q .normal a' w') l a) : (Code.region id l.toArray true).wp P Q a w :=
  wp_region_quiet (C := fun w' => ∃ x : Bel w, w' = past w x) hm hB ⟨⟨w.drew, (Below.refl _ _).drew⟩, rfl⟩ (by simpa using h)
end
end Go.Proofs.YteiidfklepjpmaaDoor

/-
  Package layout: New, Config, none, Size, At, What and the words of threads and slots.
-/
namespace Go.Proofs.YteiidfklepjpmaaDoor
open Go.RowKit
attribute [local go_sem] past_cell past_cell_add

theorem ret_int {k : IntKind} {a b : Int} (h : a = b) : Ending.returned (.int k a) = .returned (.int k b) := by rw [h]
set_option maxHeartbeats 400000 in
theorem within_t (n m : Int) (w : World) (h0 : 0 ≤ n) (h1 : n < m) : Calls Tryd.prog 52 #[.int .i64 n, .int .i64 m] w fun e w' => e = .returned (.bool true) ∧ w = w' := by
  go_enter Tryd.func52, Tryd.ntmps52
  go_wp2_with fail
  go_ret
  exact ⟨rfl, rfl⟩
set_option maxHeartbeats 400000 in
theorem within_f (n m : Int) (w : World) (h : n < 0 ∨ m ≤ n) : Calls Tryd.prog 52 #[.int .i64 n, .int .i64 m] w fun e w' => e = .returned (.bool false) ∧ w = w' := by
  by_cases c1 : 0 ≤ n
  · have c2 : ¬ n < m := by omega
    clear h
    go_enter Tryd.func52, Tryd.ntmps52
    go_wp2_with fail
    go_ret
    exact ⟨rfl, rfl⟩
  · clear h
    go_enter Tryd.func52, Tryd.ntmps52
    go_wp2_with fail
    go_ret
    exact ⟨rfl, rfl⟩

/-- A layout's value. -/
def L5 (s t f l p : Int) : Value := .agg #[.int .i64 s, .int .i64 t, .int .i64 f, .int .i64 l, .int .i64 p]
set_option maxHeartbeats 400000 in
theorem none_no (s t f l p : Int) (w : World) (hs : 1 ≤ s) : Calls Tryd.prog 42 #[.agg #[.int .i64 s, .int .i64 t, .int .i64 f, .int .i64 l, .int .i64 p]] w fun e w' => e = .returned (.bool false) ∧ Below w.heap.size w w' := by
  have q : (s == 0) = false := by rw [beq_eq_false_iff_ne]; omega
  go_enter Tryd.func42, Tryd.ntmps42
  go_wp2_with fail
  go_ret
  exact ⟨rfl, (Below.refl _ _).alloc (Nat.le_refl _) _⟩
set_option maxHeartbeats 400000 in
theorem none_yes (w : World) : Calls Tryd.prog 42 #[.agg #[.int .i64 0, .int .i64 0, .int .i64 0, .int .i64 0, .int .i64 0]] w fun e w' => e = .returned (.bool true) ∧ Below w.heap.size w w' := by
  go_enter Tryd.func42, Tryd.ntmps42
  go_wp2_with fail
  go_ret
  exact ⟨rfl, (Below.refl _ _).alloc (Nat.le_refl _) _⟩
set_option maxHeartbeats 400000 in
theorem announces_any (s t f l p : Int) (w : World) : Calls Tryd.prog 53 #[.agg #[.int .i64 s, .int .i64 t, .int .i64 f, .int .i64 l, .int .i64 p]] w fun e w' => e = .returned (.int .i64 3) ∧ Below w.heap.size w w' := by
  go_enter Tryd.func53, Tryd.ntmps53
  go_wp2_with fail
  go_ret
  exact ⟨rfl, (Below.refl _ _).alloc (Nat.le_refl _) _⟩
set_option maxHeartbeats 400000 in
theorem width_any (s t f l p : Int) (w : World) (hf : 4 ≤ f ∧ f ≤ 64) : Calls Tryd.prog 44 #[.agg #[.int .i64 s, .int .i64 t, .int .i64 f, .int .i64 l, .int .i64 p]] w fun e w' => e = .returned (.int .i64 (3 + 2 * f)) ∧ Below w.heap.size w w' := by
  obtain ⟨h1, h2⟩ := hf
  go_enter Tryd.func44, Tryd.ntmps44
  go_wp2_with fail
  go_ret
  exact ⟨rfl, (Below.refl _ _).alloc (Nat.le_refl _) _⟩
set_option maxHeartbeats 1000000 in
theorem hazards_any (s t f l p : Int) (w : World) (ht : 1 ≤ t ∧ t ≤ 64) : Calls Tryd.prog 50 #[.agg #[.int .i64 s, .int .i64 t, .int .i64 f, .int .i64 l, .int .i64 p]] w fun e w' => e = .returned (.int .i64 (3 + t)) ∧ Below w.heap.size w w' := by
  obtain ⟨h1, h2⟩ := ht
  have h3 : IntKind.i64.wrap (3 + t) = 3 + t := IntWalk.i64_in _ (by omega)
  go_enter Tryd.func50, Tryd.ntmps50
  go_wp2_with fail
  have bx := Blk.new w 28 #[.int .i64 s, .int .i64 t, .int .i64 f, .int .i64 l, .int .i64 p]
  have lx := bx.lt
  have mx := fun i => bx.cell i
  have B0 := (Below.refl w.heap.size w).alloc (Nat.le_refl _) (.cells #[.int .i64 s, .int .i64 t, .int .i64 f, .int .i64 l, .int .i64 p] 28)
  generalize w.alloc (.cells #[.int .i64 s, .int .i64 t, .int .i64 f, .int .i64 l, .int .i64 p] 28) = w1 at *
  refine wp_region_past (by kernel_rfl) (by kernel_rfl) ?_
  repeat (quiet_step ((first | ((exact calls_past (announces_any _ _ _ _ _ _))))))
  refine wpQuiet_nil ?_
  intro _ hw'
  obtain ⟨y, hw''⟩ := hw'
  subst hw''
  have hy := past_below w1 y
  go_wp2_with fail
  go_ret
  exact ⟨rfl, B0.trans (hy.mono B0.size)⟩
set_option maxHeartbeats 1000000 in
theorem slots_any (s t f l p : Int) (w : World) (ht : 1 ≤ t ∧ t ≤ 64) : Calls Tryd.prog 43 #[.agg #[.int .i64 s, .int .i64 t, .int .i64 f, .int .i64 l, .int .i64 p]] w fun e w' => e = .returned (.int .i64 (3 + 3 * t)) ∧ Below w.heap.size w w' := by
  have H := hide (fun w => hazards_any s t f l p w ht)
  obtain ⟨h1, h2⟩ := ht
  have h4 : IntKind.i64.wrap (2 * t) = 2 * t := IntWalk.i64_in _ (by omega)
  have h3 : IntKind.i64.wrap (3 + t + 2 * t) = 3 + 3 * t := by rw [IntWalk.i64_in _ (by omega)]; omega
  go_enter Tryd.func43, Tryd.ntmps43
  go_wp2_with fail
  have bx := Blk.new w 28 #[.int .i64 s, .int .i64 t, .int .i64 f, .int .i64 l, .int .i64 p]
  have lx := bx.lt
  have mx := fun i => bx.cell i
  have B0 := (Below.refl w.heap.size w).alloc (Nat.le_refl _) (.cells #[.int .i64 s, .int .i64 t, .int .i64 f, .int .i64 l, .int .i64 p] 28)
  generalize w.alloc (.cells #[.int .i64 s, .int .i64 t, .int .i64 f, .int .i64 l, .int .i64 p] 28) = w1 at *
  refine wp_region_past (by kernel_rfl) (by kernel_rfl) ?_
  repeat (quiet_step ((first | ((exact calls_past (H.out _))))))
  refine wpQuiet_nil ?_
  intro _ hw'
  obtain ⟨y, hw''⟩ := hw'
  subst hw''
  have hy := past_below w1 y
  go_wp2_with fail
  go_ret
  exact ⟨rfl, B0.trans (hy.mono B0.size)⟩
set_option maxHeartbeats 1000000 in
theorem size_any (s t f l p : Int) (w : World) (hs : 1 ≤ s ∧ s ≤ 1000) (ht : 1 ≤ t ∧ t ≤ 64) (hf : 4 ≤ f ∧ f ≤ 64) : Calls Tryd.prog 31 #[.agg #[.int .i64 s, .int .i64 t, .int .i64 f, .int .i64 l, .int .i64 p]] w fun e w' => e = .returned (.int .i64 (laySize s t f)) ∧ Below w.heap.size w w' := by
  have N := hide (fun w => none_no s t f l p w hs.1)
  have H := hide (fun w => slots_any s t f l p w ht)
  have W := hide (fun w => width_any s t f l p w hf)
  have z := size_pos hs ht hf
  have h3 : IntKind.i64.wrap (s + 1) = s + 1 := IntWalk.i64_in _ (by omega)
  have h4 : IntKind.i64.wrap ((s + 1) * (3 + 2 * f)) = (s + 1) * (3 + 2 * f) := IntWalk.i64_in _ (by unfold laySize at z; omega)
  have h5 : IntKind.i64.wrap (3 + 3 * t + (s + 1) * (3 + 2 * f)) = laySize s t f := by unfold laySize at z ⊢; exact IntWalk.i64_in _ (by omega)
  clear z
  generalize laySize s t f = R at *
  go_enter Tryd.func31, Tryd.ntmps31
  go_wp2_with fail
  have bx := Blk.new w 28 #[.int .i64 s, .int .i64 t, .int .i64 f, .int .i64 l, .int .i64 p]
  have B0 := (Below.refl w.heap.size w).alloc (Nat.le_refl _) (.cells #[.int .i64 s, .int .i64 t, .int .i64 f, .int .i64 l, .int .i64 p] 28)
  refine (N.out _).mono ?_
  rintro e w1 ⟨rfl, hb1⟩
  replace bx := bx.below hb1 bx.lt
  replace B0 := B0.trans (hb1.mono B0.size)
  clear hb1
  have lx := bx.lt
  have mx := fun i => bx.cell i
  go_wp2_with fail
  refine wp_region_past (by kernel_rfl) (by kernel_rfl) ?_
  repeat (quiet_step ((first | ((first | (go_at_call 43; exact calls_past (H.out _)) | (go_at_call 44; exact calls_past (W.out _)))))))
  refine wpQuiet_nil ?_
  intro _ hw'
  obtain ⟨y, hw''⟩ := hw'
  subst hw''
  have hy := past_below w1 y
  go_wp2_with fail
  go_ret
  exact ⟨rfl, B0.trans (hy.mono B0.size)⟩
set_option maxHeartbeats 400000 in
theorem size_zero (w : World) : Calls Tryd.prog 31 #[.agg #[.int .i64 0, .int .i64 0, .int .i64 0, .int .i64 0, .int .i64 0]] w fun e w' => e = .returned (.int .i64 0) ∧ Below w.heap.size w w' := by
  have N := hide none_yes
  go_enter Tryd.func31, Tryd.ntmps31
  go_wp2_with fail
  have B0 := (Below.refl w.heap.size w).alloc (Nat.le_refl _) (.cells #[.int .i64 0, .int .i64 0, .int .i64 0, .int .i64 0, .int .i64 0] 28)
  refine (N.out _).mono ?_
  rintro e w1 ⟨rfl, hb1⟩
  go_wp2_with fail
  go_ret
  exact ⟨rfl, B0.trans (hb1.mono B0.size)⟩
set_option maxHeartbeats 400000 in
theorem lconfig_any (s t f l p : Int) (w : World) : Calls Tryd.prog 34 #[.agg #[.int .i64 s, .int .i64 t, .int .i64 f, .int .i64 l, .int .i64 p]] w fun e w' => e = .returned (.agg #[.int .i64 s, .int .i64 t, .int .i64 f, .int .i64 l, .int .i64 p]) ∧ Below w.heap.size w w' := by
  go_enter Tryd.func34, Tryd.ntmps34
  go_wp2_with fail
  refine bodyPost_ret (v := .agg #[.int .i64 s, .int .i64 t, .int .i64 f, .int .i64 l, .int .i64 p]) (by simp [results, Tryd.results34, go_sem]) rfl ⟨rfl, ?_⟩
  exact ((Below.refl _ _).alloc (Nat.le_refl _) _).alloc (by simp only [World.size_alloc]; omega) _
set_option maxHeartbeats 1000000 in
theorem new_yes (s t f l p : Int) (w : World) (hT : Tab w) (h : cfgOk s t f l p = true) : Calls Tryd.prog 7 #[.agg #[.int .i64 s, .int .i64 t, .int .i64 f, .int .i64 l, .int .i64 p]] w fun e w' => e = .returned (.agg #[.int .i64 s, .int .i64 t, .int .i64 f, .int .i64 l, .int .i64 p]) ∧ Below w.heap.size w w' := by
  have R := hide (fun w2 (hb : Below w.heap.size w w2) => cright_any s t f l p w2 (hT.below hb))
  rw [h] at R
  clear h
  go_enter Tryd.func7, Tryd.ntmps7
  go_wp2_with fail
  have bx := Blk.new w 23 #[.int .i64 s, .int .i64 t, .int .i64 f, .int .i64 l, .int .i64 p]
  have B0 := (Below.refl w.heap.size w).alloc (Nat.le_refl _) (.cells #[.int .i64 s, .int .i64 t, .int .i64 f, .int .i64 l, .int .i64 p] 23)
  have bo := Blk.new (w.alloc (.cells #[.int .i64 s, .int .i64 t, .int .i64 f, .int .i64 l, .int .i64 p] 23)) 28 #[.int .i64 0, .int .i64 0, .int .i64 0, .int .i64 0, .int .i64 0]
  replace bx := bx.alloc (.cells #[.int .i64 0, .int .i64 0, .int .i64 0, .int .i64 0, .int .i64 0] 28)
  replace B0 := B0.alloc B0.size (.cells #[.int .i64 0, .int .i64 0, .int .i64 0, .int .i64 0, .int .i64 0] 28)
  rw [World.size_alloc] at bo
  refine (R.out _ B0).mono ?_
  rintro e w1 ⟨rfl, hb1⟩
  replace bx := bx.below hb1 bx.lt
  replace bo := bo.below hb1 bo.lt
  replace B0 := B0.trans (hb1.mono B0.size)
  clear hb1
  have mx := fun i => bx.cell i
  have mo := fun i => bo.cell i
  have zo := fun i => bo.frozen i
  go_wp2_with fail
  have b9 := ((((bo.set_ 0 (.int .i64 s)).set_ 1 (.int .i64 t)).set_ 2 (.int .i64 f)).set_ 3 (.int .i64 l)).set_ 4 (.int .i64 p)
  simp only [List.setIfInBounds_toArray, List.set_cons_zero, List.set_cons_succ] at b9
  have B9 := ((((B0.setCell (p := ⟨w.heap.size + 1, 0, none⟩) (by show w.heap.size ≤ w.heap.size + 1; omega) (.int .i64 s)).setCell (p := ⟨w.heap.size + 1, 1, none⟩) (by show w.heap.size ≤ w.heap.size + 1; omega) (.int .i64 t)).setCell (p := ⟨w.heap.size + 1, 2, none⟩) (by show w.heap.size ≤ w.heap.size + 1; omega) (.int .i64 f)).setCell (p := ⟨w.heap.size + 1, 3, none⟩) (by show w.heap.size ≤ w.heap.size + 1; omega) (.int .i64 l)).setCell (p := ⟨w.heap.size + 1, 4, none⟩) (by show w.heap.size ≤ w.heap.size + 1; omega) (.int .i64 p)
  have m9 := fun i => b9.cell i
  refine bodyPost_ret (v := .agg #[.int .i64 s, .int .i64 t, .int .i64 f, .int .i64 l, .int .i64 p]) (by simp [results, Tryd.results7, go_sem, m9]) rfl ⟨rfl, B9⟩
set_option maxHeartbeats 1000000 in
theorem new_no (s t f l p : Int) (w : World) (hT : Tab w) (h : cfgOk s t f l p = false) : Calls Tryd.prog 7 #[.agg #[.int .i64 s, .int .i64 t, .int .i64 f, .int .i64 l, .int .i64 p]] w fun e w' => e = .returned (.agg #[.int .i64 0, .int .i64 0, .int .i64 0, .int .i64 0, .int .i64 0]) ∧ Below w.heap.size w w' := by
  have R := hide (fun w2 (hb : Below w.heap.size w w2) => cright_any s t f l p w2 (hT.below hb))
  rw [h] at R
  clear h
  go_enter Tryd.func7, Tryd.ntmps7
  go_wp2_with fail
  have bx := Blk.new w 23 #[.int .i64 s, .int .i64 t, .int .i64 f, .int .i64 l, .int .i64 p]
  have B0 := (Below.refl w.heap.size w).alloc (Nat.le_refl _) (.cells #[.int .i64 s, .int .i64 t, .int .i64 f, .int .i64 l, .int .i64 p] 23)
  have bo := Blk.new (w.alloc (.cells #[.int .i64 s, .int .i64 t, .int .i64 f, .int .i64 l, .int .i64 p] 23)) 28 #[.int .i64 0, .int .i64 0, .int .i64 0, .int .i64 0, .int .i64 0]
  replace bx := bx.alloc (.cells #[.int .i64 0, .int .i64 0, .int .i64 0, .int .i64 0, .int .i64 0] 28)
  replace B0 := B0.alloc B0.size (.cells #[.int .i64 0, .int .i64 0, .int .i64 0, .int .i64 0, .int .i64 0] 28)
  rw [World.size_alloc] at bo
  refine (R.out _ B0).mono ?_
  rintro e w1 ⟨rfl, hb1⟩
  replace bx := bx.below hb1 bx.lt
  replace bo := bo.below hb1 bo.lt
  replace B0 := B0.trans (hb1.mono B0.size)
  clear hb1
  have mx := fun i => bx.cell i
  have mo := fun i => bo.cell i
  have zo := fun i => bo.frozen i
  go_wp2_with fail
  have b9 := ((((bo.set_ 0 (.int .i64 0)).set_ 1 (.int .i64 0)).set_ 2 (.int .i64 0)).set_ 3 (.int .i64 0)).set_ 4 (.int .i64 0)
  simp only [List.setIfInBounds_toArray, List.set_cons_zero, List.set_cons_succ] at b9
  have B9 := ((((B0.setCell (p := ⟨w.heap.size + 1, 0, none⟩) (by show w.heap.size ≤ w.heap.size + 1; omega) (.int .i64 0)).setCell (p := ⟨w.heap.size + 1, 1, none⟩) (by show w.heap.size ≤ w.heap.size + 1; omega) (.int .i64 0)).setCell (p := ⟨w.heap.size + 1, 2, none⟩) (by show w.heap.size ≤ w.heap.size + 1; omega) (.int .i64 0)).setCell (p := ⟨w.heap.size + 1, 3, none⟩) (by show w.heap.size ≤ w.heap.size + 1; omega) (.int .i64 0)).setCell (p := ⟨w.heap.size + 1, 4, none⟩) (by show w.heap.size ≤ w.heap.size + 1; omega) (.int .i64 0)
  have m9 := fun i => b9.cell i
  refine bodyPost_ret (v := .agg #[.int .i64 0, .int .i64 0, .int .i64 0, .int .i64 0, .int .i64 0]) (by simp [results, Tryd.results7, go_sem, m9]) rfl ⟨rfl, B9⟩
end Go.Proofs.YteiidfklepjpmaaDoor

