/-
  Words for memory: a slice that reads as a list of cells; a block that is known whole; append onto a row of the call's own.
-/
import Derived.Test.YtlnckjemfabckaaGreatDoorRows
import Derived.WalkKit
import Derived.Deep.AppendLies
import Derived.Deep.Draws
import Derived.Laws.OwnMore
import Derived.Laws.Rows
import Derived.Maps.AppendAt
import Derived.RegionTactic
import Derived.OwnWalk
import Derived.Deep.LoopGhost
import Derived.Laws.BytesArg
import Derived.Lib.Bytealg
import Derived.Laws.Externs
import Derived.Laws.Strings
import Derived.Lib.Join
import Derived.Lib.FieldsLaws
import Derived.Test.YtlnckjemfabckaaGreatDoorTie
import Derived.Test.YtlnckjemfabckaaGreatDoorCards
import Derived.ProofKit
import Derived.LaidMore
import Derived.OpenShut
import Derived.Stop.Joined
import Derived.SevenTiedAt
import Derived.Lib.LaidTab
import Derived.Lib.Fields
import Derived.Lib.SplitLaws
import Derived.Lib.Walk
import Derived.Laws.Strings3
import Derived.Deep.OwnRows
import Derived.Deep.CutBlock
import Derived.Deep.QuietTactic
import Derived.BigQuiet
import Derived.Shelf.Strings.OnBuilder
import Derived.Shelf.Strings.BuilderF
import Derived.Shelf.Strings.BuilderK
import Derived.Test.YtlnckjemfabckaaGreatDoorProg
import Derived.Deep.RegionHeld3
import Derived.Deep.Slices
import Derived.Deep.Fields
namespace Go.Proofs.YtlnckjemfabckaaGreatDoor
open Go.RowKit

/-- A fact kept from the walk's simp; '.out' gives it back. -/
theorem hide {p : Prop} (h : p) : Hid p := h
theorem unhide {p : Prop} (h : Hid p) : p := h

theorem below_drewN {B : Nat} {a w : World} (h : Below B a w) (n : Nat) : Below B a (w.drewN n) := ⟨h.os, h.tape, h.output, h.size, h.block⟩

theorem quiet_left {P : Program} {f : FuncId} {args : Array Value} {w : World} {n : Nat} {v : Value}
    (h : Calls P f args (w.drewN n) fun e w' => e = .returned v ∧ w.drewN n = w') : Calls P f args (w.drewN n) fun e w'' => e = .returned v ∧ ∃ m, w'' = w.drewN m :=
  h.mono fun _ _ ⟨he, hm⟩ => ⟨he, n, hm.symm⟩
theorem keepCell {w w' : World} (hb : Below w.heap.size w w') {a : Addr} {v : Value} (h : w.cell? a = some v) : w'.cell? a = some v := (hb.cell (World.block_lt_of_cell? w a h)).trans h

/-- A function value whose function is known is entered. -/
theorem run_enter {P : Program} {f : FuncId} {fn : Func} (hf : P.funcs[f]? = some fn) (hname : fn.name ≠ "runtime.NumGoroutine") (hb : fn.body ≠ none) (args : Array Value) (w : World) :
    (callFunc f args).run P w = .ok (.enter f args) w := by
  simp [callFunc, hf, hname, hb, go_sem]

theorem bcell {W w1 : World} (hb : Below W.heap.size W w1) : (∀ b o, b < W.heap.size → w1.cell? ⟨b, o, none⟩ = W.cell? ⟨b, o, none⟩) ∧ (∀ b o, b < W.heap.size → w1.frozen? ⟨b, o, none⟩ = W.frozen? ⟨b, o, none⟩) :=
  ⟨fun b o h => hb.cell (p := ⟨b, o, none⟩) h, fun b o h => hb.frozen (p := ⟨b, o, none⟩) h⟩

theorem block_of_add (a : Addr) (n : Nat) : (a.add n).block = a.block := by unfold Addr.add; split <;> rfl
theorem add_of_add (a : Addr) (i j : Nat) : (a.add i).add j = a.add (i + j) := by
  unfold Addr.add
  by_cases hi : i = 0 <;> by_cases hj : j = 0 <;> simp [hi, hj, Nat.add_assoc]

def Reads (w : World) (B size : Nat) (A : Option Addr) (n : Nat) (xs : List Value) : Prop :=
  xs.length = n * size ∧ (0 < n → ∃ ad, A = some ad ∧ ad.block < B ∧ ∀ j u, xs[j]? = some u → w.cell? (ad.add j) = some u)

section
variable {w w' : World} {B B' size n : Nat} {A : Option Addr} {xs : List Value}
theorem Reads.none_ : Reads w B size A 0 [] := ⟨by simp, fun h => absurd h (by omega)⟩
theorem Reads.at_ {k : Nat} (h : Reads w B 1 A n xs) (hk : k < n) : ∃ ad u, A = some ad ∧ ad.block < B ∧ xs[k]? = some u ∧ w.cell? (ad.add k) = some u := by
  obtain ⟨ad, e, hb, hc⟩ := h.2 (by omega)
  have hl : k < xs.length := by have := h.1; omega
  exact ⟨ad, xs[k], e, hb, List.getElem?_eq_getElem hl, hc k _ (List.getElem?_eq_getElem hl)⟩
theorem Reads.keep (h : Reads w B size A n xs) (hk : ∀ p : Addr, p.block < B → w'.cell? p = w.cell? p) : Reads w' B size A n xs :=
  ⟨h.1, fun hn => by
    obtain ⟨ad, e, hb, hc⟩ := h.2 hn
    exact ⟨ad, e, hb, fun j u hu => (hk _ (by rw [block_of_add]; exact hb)).trans (hc j u hu)⟩⟩
theorem Reads.more (h : Reads w B size A n xs) (hB : B ≤ B') : Reads w B' size A n xs :=
  ⟨h.1, fun hn => by
    obtain ⟨ad, e, hb, hc⟩ := h.2 hn
    exact ⟨ad, e, by omega, hc⟩⟩
theorem Reads.below (h : Reads w B size A n xs) (hb : Below B w w') : Reads w' B size A n xs := h.keep fun _ hp => hb.cell hp
theorem Reads.drew (h : Reads w B size A n xs) : Reads w.drew B size A n xs := h
theorem Reads.drewN (h : Reads w B size A n xs) (k : Nat) : Reads (w.drewN k) B size A n xs := h
theorem Reads.alloc (h : Reads w B size A n xs) (hB : B ≤ w.heap.size) (o : Obj) : Reads (w.alloc o) B size A n xs := h.keep fun p hp => World.cell?_alloc_lt w o p (by omega)
theorem Reads.setCell (h : Reads w B size A n xs) {p : Addr} (hB : B ≤ p.block) (u : Value) : Reads (w.setCell p u) B size A n xs :=
  h.keep fun q hq => World.cell?_setCell_other w p q u (fun e => by subst e; omega)
theorem Reads.grown (h : Reads w B size A n xs) {row : Option Nat} (hg : w.grownBy w' row) (hB : B ≤ w.heap.size) (hr : ∀ g, row = some g → B ≤ g) : Reads w' B size A n xs :=
  h.keep fun p hp => World.cell?_of_block (hg.block p.block (by omega) (fun e => by have := hr _ e.symm; omega))
theorem Reads.cut (h : Reads w B size A n xs) {k cap : Nat} (hk : k ≤ n) (hc : n ≤ cap) :
    Reads w B size (if cap = k then A else A.map (·.add (k * size))) (n - k) (xs.drop (k * size)) := by
  refine ⟨by rw [List.length_drop, h.1, Nat.sub_mul], fun hn => ?_⟩
  obtain ⟨ad, rfl, hb, hcell⟩ := h.2 (by omega)
  rw [if_neg (by omega)]
  refine ⟨ad.add (k * size), rfl, by rw [block_of_add]; exact hb, fun j u hu => ?_⟩
  rw [add_of_add]
  exact hcell _ u (by rw [← hu, List.getElem?_drop])
theorem Reads.of_own {base : Nat} {e : TypeId} {c : Nat} (h : w.ownsRow base e size (.slice A n c) n xs) : Reads w w.heap.size size A n xs := by
  refine ⟨h.1, fun hn => ?_⟩
  obtain ⟨g, cap, hv, _, hlt⟩ := h.form hn
  have hA : A = some ⟨g, 0, none⟩ := by injection hv
  subst hA
  exact ⟨_, rfl, hlt, h.cells (g := g) rfl⟩
end

def Blk (w : World) (g : Nat) (t : TypeId) (cs : Array Value) : Prop := w.heap[g]? = some (.cells cs t (0, 0))

section
variable {w w' : World} {g : Nat} {t : TypeId} {cs : Array Value}
theorem Blk.lt (h : Blk w g t cs) : g < w.heap.size := by
  rcases Nat.lt_or_ge g w.heap.size with hlt | hge
  · exact hlt
  · unfold Blk at h; rw [Array.getElem?_eq_none hge] at h; cases h
theorem Blk.cell (h : Blk w g t cs) (i : Nat) : w.cell? ⟨g, i, none⟩ = cs[i]? := cell_of_row w g i cs t (0, 0) h
theorem Blk.frozen (h : Blk w g t cs) (i : Nat) : w.frozen? ⟨g, i, none⟩ = false := by
  unfold Blk at h
  simp [World.frozen?, h]
theorem Blk.new (w : World) (t : TypeId) (cs : Array Value) : Blk (w.alloc (.cells cs t)) w.heap.size t cs := heap_alloc_new w _
theorem Blk.drew (h : Blk w g t cs) : Blk w.drew g t cs := h
theorem Blk.drewN (h : Blk w g t cs) (n : Nat) : Blk (w.drewN n) g t cs := h
theorem Blk.alloc (h : Blk w g t cs) (o : Obj) : Blk (w.alloc o) g t cs := (Below.heap_alloc w o g h.lt).trans h
theorem Blk.set_ (h : Blk w g t cs) (i : Nat) (u : Value) : Blk (w.setCell ⟨g, i, none⟩ u) g t (cs.setIfInBounds i u) := by
  unfold Blk at h ⊢
  simp [World.setCell, Array.getElem?_modify, h]
theorem Blk.far (h : Blk w g t cs) {p : Addr} (hp : g ≠ p.block) (u : Value) : Blk (w.setCell p u) g t cs := (Below.heap_setCell w p u g hp).trans h
theorem Blk.below {B : Nat} (h : Blk w g t cs) (hb : Below B w w') (hg : g < B) : Blk w' g t cs := (hb.block g hg).trans h
theorem Blk.grown {row : Option Nat} (h : Blk w g t cs) (hb : w.grownBy w' row) (hg : some g ≠ row) : Blk w' g t cs := (hb.block g h.lt hg).trans h
theorem Blk.ne_ {g' : Nat} {t' : TypeId} {cs' : Array Value} (h : Blk w g t cs) (h' : Blk w g' t' cs') (hne : t ≠ t') : g ≠ g' := by
  rintro rfl
  unfold Blk at h h'
  rw [h] at h'
  injection h' with h'
  injection h' with _ ht
  exact hne ht
theorem own_blk_ne {base : Nat} {e : TypeId} {size n : Nat} {v : Value} {xs : List Value} (h : w.ownsRow base e size v n xs) (hg : Blk w g t cs) (hne : e ≠ t) : v.ownBlock ≠ some g := by
  rcases h.2 with ⟨rfl, _⟩ | ⟨g', cap, cur, rfl, _, hh, _⟩
  · simp [Value.ownBlock]
  · intro he
    have : g' = g := by simpa [Value.ownBlock] using he
    subst this
    exact Blk.ne_ (t := e) hh hg hne rfl
end

section
variable {P : Program} (w : World)

theorem run_append_of_nil (base : Nat) (t ty e : TypeId) (i : TypeInfo) (size : Nat) (ht : P.underlying t = some (.slice e)) (hi : P.info? e = some i)
    (v : Value) (n : Nat) (xs : List Value) (hown : w.ownsRow base e size v n xs) (c : Nat) : (Builtin.append_ #[t, t] ty #[v, .slice none 0 c]).run P w = .ok v w := by
  rcases hown.2 with ⟨rfl, rfl⟩ | ⟨g, cap, cur, rfl, _, _, hnc, _⟩
  · simp [Builtin.append_, run_underlying ht, sizeOf, typeInfo, hi, Builtin.lenOf, Builtin.firstCells]
  · simp [Builtin.append_, run_underlying ht, sizeOf, typeInfo, hi, Builtin.lenOf, Builtin.firstCells, hnc, storeCells]

theorem run_append_any (base : Nat) (t ty e : TypeId) (i : TypeInfo) (z : Value) (size bytes : Nat) (ht : P.underlying t = some (.slice e)) (hi : P.info? e = some i) (hz : i.zero = some z)
    (hsize : i.size = size) (hby : i.bytes = bytes) (hzs : z.cells.size = size) (hsz : 0 < size)
    (v : Value) (n : Nat) (xs : List Value) (hown : w.ownsRow base e size v n xs)
    (B : Nat) (A : Option Addr) (m c : Nat) (news : List Value) (hr : Reads w B size A m news) (h1 : ∀ u ∈ news, u.oneCell' = true)
    (h63 : n + m ≤ maxLen) (hbytes : (n + m) * bytes ≤ 140737488355328) (hbase : base ≤ w.heap.size) :
    ∃ v' w', (Builtin.append_ #[t, t] ty #[v, .slice A m c]).run P w = .ok v' w' ∧ w'.ownsRow base e size v' (n + m) (xs ++ news) ∧ w.grownBy w' v.ownBlock ∧
      (v'.ownBlock = v.ownBlock ∨ v'.ownBlock = some w.heap.size) := by
  rcases A with _ | ad
  · have hm : m = 0 := by
      rcases Nat.eq_zero_or_pos m with h0 | h0
      · exact h0
      · obtain ⟨ad, h, _⟩ := hr.2 h0
        cases h
    subst hm
    have hn : news = [] := List.eq_nil_of_length_eq_zero (by simpa using hr.1)
    subst hn
    exact ⟨v, w, run_append_of_nil w base t ty e i size ht hi v n xs hown c, by simpa using hown, World.grownBy.refl w _, .inl rfl⟩
  · have hcells : ∀ j u, news[j]? = some u → w.cell? (ad.add j) = some u := by
      intro j u hu
      rcases Nat.eq_zero_or_pos m with h0 | h0
      · subst h0
        have hn : news = [] := List.eq_nil_of_length_eq_zero (by simpa using hr.1)
        subst hn
        simp at hu
      · obtain ⟨ad', h, _, hc⟩ := hr.2 h0
        injection h with h
        subst h
        exact hc j u hu
    obtain ⟨v', w', hrun, h2, h3, _, h5⟩ := run_append_own_at (P := P) w base t ty e i z size bytes ht hi hz hsize hby hzs hsz v n xs hown ad m c news hr.1 hcells h1 h63 hbytes hbase
    exact ⟨v', w', hrun, h2, h3, h5⟩

theorem wp_append_any {o : Oper} {a : Act} {K : Act → World → Prop} {Q : Exit → Act → World → Prop} (s x : Operand) (t : TypeId)
    (ho : o.op = .call { callee := .builtin .append, args := #[s, x], argTypes := #[t, t] })
    (base : Nat) (e : TypeId) (i : TypeInfo) (z : Value) (size bytes : Nat) (ht : P.underlying t = some (.slice e)) (hi : P.info? e = some i) (hz : i.zero = some z)
    (hsize : i.size = size) (hby : i.bytes = bytes) (hzs : z.cells.size = size) (hsz : 0 < size)
    (v : Value) (n : Nat) (xs : List Value) (hs : a.eval s = v) (hown : w.ownsRow base e size v n xs)
    (B : Nat) (A : Option Addr) (m c : Nat) (news : List Value) (hx : a.eval x = .slice A m c) (hr : Reads w B size A m news) (h1 : ∀ u ∈ news, u.oneCell' = true)
    (h63 : n + m ≤ maxLen) (hbytes : (n + m) * bytes ≤ 140737488355328) (hbase : base ≤ w.heap.size)
    (h : ∀ v' w', w'.ownsRow base e size v' (n + m) (xs ++ news) → w.grownBy w' v.ownBlock → (v'.ownBlock = v.ownBlock ∨ v'.ownBlock = some w.heap.size) → K (a.put o.dst v') w') : o.wp P a w K Q := by
  obtain ⟨v', w', hrun, h2, h3, h4⟩ := run_append_any (P := P) w base t o.type e i z size bytes ht hi hz hsize hby hzs hsz v n xs hown B A m c news hr h1 h63 hbytes hbase
  unfold Oper.wp execOp
  simp only [ho, resolve, invoke, builtin, Sem.run_bind, Sem.run_pure, Result.andThen_ok, List.map_toArray, List.map_cons, List.map_nil, hs, hx, hrun]
  exact h v' w' h2 h3 h4

theorem wpList_append_any {ops : Array Oper} {rest : List Oper} {o : Oper} {a : Act} {Q : Exit → Act → World → Prop} (hgd : o.guard = none) (s x : Operand) (t : TypeId)
    (ho : o.op = .call { callee := .builtin .append, args := #[s, x], argTypes := #[t, t] })
    (base : Nat) (e : TypeId) (i : TypeInfo) (z : Value) (size bytes : Nat) (ht : P.underlying t = some (.slice e)) (hi : P.info? e = some i) (hz : i.zero = some z)
    (hsize : i.size = size) (hby : i.bytes = bytes) (hzs : z.cells.size = size) (hsz : 0 < size)
    (v : Value) (n : Nat) (xs : List Value) (hs : a.eval s = v) (hown : w.ownsRow base e size v n xs)
    (B : Nat) (A : Option Addr) (m c : Nat) (news : List Value) (hx : a.eval x = .slice A m c) (hr : Reads w B size A m news) (h1 : ∀ u ∈ news, u.oneCell' = true)
    (h63 : n + m ≤ maxLen) (hbytes : (n + m) * bytes ≤ 140737488355328) (hbase : base ≤ w.heap.size)
    (h : ∀ v' w', w'.ownsRow base e size v' (n + m) (xs ++ news) → w.grownBy w' v.ownBlock → (v'.ownBlock = v.ownBlock ∨ v'.ownBlock = some w.heap.size) → wpList P ops Q rest (a.put o.dst v') w') : wpList P ops Q (o :: rest) a w :=
  wpList_plain hgd fun _ hK => wp_append_any w s x t ho base e i z size bytes ht hi hz hsize hby hzs hsz v n xs hs hown B A m c news hx hr h1 h63 hbytes hbase fun v' w' h2 h3 h4 => hK _ _ (h v' w' h2 h3 h4)

theorem step_append_any {ops : Array Oper} {o : Oper} {a : Act} {K : Act → World → Prop} {Q : Exit → Act → World → Prop} {E : Prop} (hgd : o.guard = none) (s x : Operand) (t : TypeId)
    (ho : o.op = .call { callee := .builtin .append, args := #[s, x], argTypes := #[t, t] })
    (base : Nat) (e : TypeId) (i : TypeInfo) (z : Value) (size bytes : Nat) (ht : P.underlying t = some (.slice e)) (hi : P.info? e = some i) (hz : i.zero = some z)
    (hsize : i.size = size) (hby : i.bytes = bytes) (hzs : z.cells.size = size) (hsz : 0 < size)
    (v : Value) (n : Nat) (xs : List Value) (hs : a.eval s = v) (hown : w.ownsRow base e size v n xs)
    (B : Nat) (A : Option Addr) (m c : Nat) (news : List Value) (hx : a.eval x = .slice A m c) (hr : Reads w B size A m news) (h1 : ∀ u ∈ news, u.oneCell' = true)
    (h63 : n + m ≤ maxLen) (hbytes : (n + m) * bytes ≤ 140737488355328) (hbase : base ≤ w.heap.size)
    (h : ∀ v' w', w'.ownsRow base e size v' (n + m) (xs ++ news) → w.grownBy w' v.ownBlock → (v'.ownBlock = v.ownBlock ∨ v'.ownBlock = some w.heap.size) → K (a.put o.dst v') w') :
    if Region.wanted o (yielded ops a.tmps) = true then Oper.wp P o a w K Q else E := by
  have hw : Region.wanted o (yielded ops a.tmps) = true := by simp [Region.wanted, hgd]
  rw [if_pos hw]
  exact wp_append_any w s x t ho base e i z size bytes ht hi hz hsize hby hzs hsz v n xs hs hown B A m c news hx hr h1 h63 hbytes hbase h
end

theorem Reads.new (w : World) (cs : List Value) (t : TypeId) (n s : Nat) (h : cs.length = n * s) : Reads (w.alloc (.cells cs.toArray t)) (w.heap.size + 1) s (some ⟨w.heap.size, 0, none⟩) n cs := by
  refine ⟨h, fun _ => ⟨_, rfl, by simp, fun j u hu => ?_⟩⟩
  rw [Addr.add_lit]
  have := cell_of_row (w.alloc (.cells cs.toArray t)) w.heap.size j cs.toArray t (0, 0) (heap_alloc_new w _)
  simp [this, hu]

theorem Reads.blk {w : World} {g : Nat} {t : TypeId} {cs : Array Value} (h : Blk w g t cs) (n s : Nat) (hn : cs.size = n * s) : Reads w (g + 1) s (some ⟨g, 0, none⟩) n cs.toList := by
  refine ⟨by simpa using hn, fun _ => ⟨_, rfl, by simp, fun j u hu => ?_⟩⟩
  rw [Addr.add_lit]
  have := h.cell j
  simpa [this] using hu

/-- What a row of the reading holds, field by field, at the addresses that the walk spells. -/
theorem Reads.row {w : World} {B s n k : Nat} {A : Option Addr} {xs : List Value} (h : Reads w B s A n xs) (hk : k < n) : ∃ ad, A = some ad ∧ ad.block < B ∧ (0 < s → w.cell? (ad.add (k * s)) = xs[k * s]?) ∧
    ∀ j, 0 < j → j < s → w.cell? ⟨(ad.add (k * s)).block, (ad.add (k * s)).off + j, none⟩ = xs[k * s + j]? := by
  obtain ⟨ad, rfl, hb, hc⟩ := h.2 (by omega)
  have hlen : ∀ j, j < s → k * s + j < xs.length := fun j hj => by
    rw [h.1]
    have h1 : k * s + s ≤ n * s := by
      have := Nat.mul_le_mul_right s (show k + 1 ≤ n from hk)
      rwa [Nat.add_mul, Nat.one_mul] at this
    omega
  refine ⟨ad, rfl, hb, fun hs => ?_, fun j h0 hj => ?_⟩
  · have := hlen 0 hs
    rw [List.getElem?_eq_getElem (by simpa using this)]
    exact hc _ _ (List.getElem?_eq_getElem (by simpa using this))
  · have := hlen j hj
    rw [List.getElem?_eq_getElem this]
    have h2 := hc _ _ (List.getElem?_eq_getElem this)
    rw [← h2, ← add_of_add]
    generalize ad.add (k * s) = q
    unfold Addr.add
    rw [if_neg (by omega)]

theorem own_reads {w : World} {B : Nat} {e : TypeId} {s n : Nat} {xs : List Value} {v : Value} (h : w.ownsRow B e s v n xs) : ∃ A c, v = .slice A n c ∧ Reads w w.heap.size s A n xs := by
  rcases h.2 with ⟨rfl, rfl⟩ | ⟨g, cap, cur, rfl, _⟩
  · have : xs = [] := List.eq_nil_of_length_eq_zero (by simpa using h.1)
    subst this
    exact ⟨none, 0, rfl, Reads.none_⟩
  · exact ⟨_, _, rfl, Reads.of_own h⟩
/-- The own blocks of two rows differ (or the first owns none). -/
def Apart (v u : Value) : Prop := v.ownBlock = none ∨ v.ownBlock ≠ u.ownBlock
theorem Apart.symm {v u : Value} (h : Apart v u) : Apart u v := by
  unfold Apart at *
  rcases h with h | h
  · by_cases e : u.ownBlock = none
    · exact .inl e
    · exact .inr (by rw [h]; exact e)
  · exact .inr (fun e => h e.symm)
theorem Apart.nil (v : Value) : Apart (.slice none 0 0) v := .inl rfl
theorem Apart.nil' (v : Value) : Apart v (.slice none 0 0) := (Apart.nil v).symm

section
variable {P : Program} {w : World}
/-- The row that was appended to (v became v1) lies apart from every other row that v lay apart from. -/
theorem Apart.grown {B : Nat} {e : TypeId} {s n : Nat} {xs : List Value} {v v1 u : Value} (h : Apart v u) (hu : w.ownsRow B e s u n xs) (hat : v1.ownBlock = v.ownBlock ∨ v1.ownBlock = some w.heap.size) : Apart v1 u := by
  unfold Apart at *
  rcases hat with e | e <;> rw [e]
  · exact h
  · refine .inr (fun e' => ?_)
    have := (hu.lt _ e'.symm).2
    omega
theorem own_kept {w' : World} {B : Nat} {e : TypeId} {s n : Nat} {xs : List Value} {v u : Value} (hu : w.ownsRow B e s u n xs) (hg : w.grownBy w' v.ownBlock) (h : Apart v u) : w'.ownsRow B e s u n xs :=
  hu.kept hg (by rcases h.symm with h | h; exact .inl h; exact .inr h)

theorem run_append_one (base : Nat) (t ty e : TypeId) (i : TypeInfo) (z : Value) (size bytes : Nat) (ht : P.underlying t = some (.slice e)) (hi : P.info? e = some i) (hz : i.zero = some z)
    (hsize : i.size = size) (hby : i.bytes = bytes) (hzs : z.cells.size = size) (hsz : 0 < size) (hb1 : bytes ≤ 1024)
    (v : Value) (n : Nat) (xs : List Value) (hown : w.ownsRow base e size v n xs)
    (g : Nat) (cs : Array Value) (hblk : Blk w g e cs) (hcs : cs.size = size) (h1 : cs.toList.all (·.oneCell') = true)
    (hn : n ≤ 4294967296) (hbase : base ≤ w.heap.size) :
    ∃ A' c' w', (Builtin.append_ #[t, t] ty #[v, .slice (some ⟨g, 0, none⟩) 1 1]).run P w = .ok (.slice A' (n + 1) c') w' ∧ w'.ownsRow base e size (.slice A' (n + 1) c') (n + 1) (xs ++ cs.toList) ∧ w.grownBy w' v.ownBlock ∧
      ((Value.slice A' (n + 1) c').ownBlock = v.ownBlock ∨ (Value.slice A' (n + 1) c').ownBlock = some w.heap.size) := by
  have key := run_append_any w base t ty e i z size bytes ht hi hz hsize hby hzs hsz v n xs hown (g + 1) (some ⟨g, 0, none⟩) 1 1 cs.toList (Reads.blk hblk 1 size (by omega)) (fun u hu => List.all_eq_true.1 h1 u hu)
    (by simp only [maxLen]; omega) (by
      have : (n + 1) * bytes ≤ 4294967297 * 1024 := Nat.mul_le_mul (by omega) hb1
      omega) hbase
  obtain ⟨v', w', h1, h2, h3, h4⟩ := key
  obtain ⟨A, c, rfl, _⟩ := own_reads h2
  exact ⟨A, c, w', h1, h2, h3, h4⟩

theorem wp_append_one {o : Oper} {a : Act} {K : Act → World → Prop} {Q : Exit → Act → World → Prop} (s x : Operand) (t : TypeId)
    (ho : o.op = .call { callee := .builtin .append, args := #[s, x], argTypes := #[t, t] })
    (base : Nat) (e : TypeId) (i : TypeInfo) (z : Value) (size bytes : Nat) (ht : P.underlying t = some (.slice e)) (hi : P.info? e = some i) (hz : i.zero = some z)
    (hsize : i.size = size) (hby : i.bytes = bytes) (hzs : z.cells.size = size) (hsz : 0 < size) (hb1 : bytes ≤ 1024)
    (v : Value) (n : Nat) (xs : List Value) (hs : a.eval s = v) (hown : w.ownsRow base e size v n xs)
    (g : Nat) (cs : Array Value) (hx : a.eval x = .slice (some ⟨g, 0, none⟩) 1 1) (hblk : Blk w g e cs) (hcs : cs.size = size) (h1 : cs.toList.all (·.oneCell') = true)
    (hn : n ≤ 4294967296) (hbase : base ≤ w.heap.size)
    (h : ∀ A' c' w', w'.ownsRow base e size (.slice A' (n + 1) c') (n + 1) (xs ++ cs.toList) → w.grownBy w' v.ownBlock → ((Value.slice A' (n + 1) c').ownBlock = v.ownBlock ∨ (Value.slice A' (n + 1) c').ownBlock = some w.heap.size) → K (a.put o.dst (.slice A' (n + 1) c')) w') : o.wp P a w K Q := by
  obtain ⟨A', c', w', hrun, h2, h3, h4⟩ := run_append_one (P := P) (w := w) base t o.type e i z size bytes ht hi hz hsize hby hzs hsz hb1 v n xs hown g cs hblk hcs h1 hn hbase
  unfold Oper.wp execOp
  simp only [ho, resolve, invoke, builtin, Sem.run_bind, Sem.run_pure, Result.andThen_ok, List.map_toArray, List.map_cons, List.map_nil, hs, hx, hrun]
  exact h A' c' w' h2 h3 h4

theorem wpList_append_one {ops : Array Oper} {rest : List Oper} {o : Oper} {a : Act} {Q : Exit → Act → World → Prop} (hgd : o.guard = none) (s x : Operand) (t : TypeId)
    (ho : o.op = .call { callee := .builtin .append, args := #[s, x], argTypes := #[t, t] })
    (base : Nat) (e : TypeId) (i : TypeInfo) (z : Value) (size bytes : Nat) (ht : P.underlying t = some (.slice e)) (hi : P.info? e = some i) (hz : i.zero = some z)
    (hsize : i.size = size) (hby : i.bytes = bytes) (hzs : z.cells.size = size) (hsz : 0 < size) (hb1 : bytes ≤ 1024)
    (v : Value) (n : Nat) (xs : List Value) (hs : a.eval s = v) (hown : w.ownsRow base e size v n xs)
    (g : Nat) (cs : Array Value) (hx : a.eval x = .slice (some ⟨g, 0, none⟩) 1 1) (hblk : Blk w g e cs) (hcs : cs.size = size) (h1 : cs.toList.all (·.oneCell') = true)
    (hn : n ≤ 4294967296) (hbase : base ≤ w.heap.size)
    (h : ∀ A' c' w', w'.ownsRow base e size (.slice A' (n + 1) c') (n + 1) (xs ++ cs.toList) → w.grownBy w' v.ownBlock → ((Value.slice A' (n + 1) c').ownBlock = v.ownBlock ∨ (Value.slice A' (n + 1) c').ownBlock = some w.heap.size) → wpList P ops Q rest (a.put o.dst (.slice A' (n + 1) c')) w') : wpList P ops Q (o :: rest) a w :=
  wpList_plain hgd fun _ hK => wp_append_one s x t ho base e i z size bytes ht hi hz hsize hby hzs hsz hb1 v n xs hs hown g cs hx hblk hcs h1 hn hbase fun A' c' w' h2 h3 h4 => hK _ _ (h A' c' w' h2 h3 h4)

theorem step_append_one {ops : Array Oper} {o : Oper} {a : Act} {K : Act → World → Prop} {Q : Exit → Act → World → Prop} {E : Prop} (hgd : o.guard = none) (s x : Operand) (t : TypeId)
    (ho : o.op = .call { callee := .builtin .append, args := #[s, x], argTypes := #[t, t] })
    (base : Nat) (e : TypeId) (i : TypeInfo) (z : Value) (size bytes : Nat) (ht : P.underlying t = some (.slice e)) (hi : P.info? e = some i) (hz : i.zero = some z)
    (hsize : i.size = size) (hby : i.bytes = bytes) (hzs : z.cells.size = size) (hsz : 0 < size) (hb1 : bytes ≤ 1024)
    (v : Value) (n : Nat) (xs : List Value) (hs : a.eval s = v) (hown : w.ownsRow base e size v n xs)
    (g : Nat) (cs : Array Value) (hx : a.eval x = .slice (some ⟨g, 0, none⟩) 1 1) (hblk : Blk w g e cs) (hcs : cs.size = size) (h1 : cs.toList.all (·.oneCell') = true)
    (hn : n ≤ 4294967296) (hbase : base ≤ w.heap.size)
    (h : ∀ A' c' w', w'.ownsRow base e size (.slice A' (n + 1) c') (n + 1) (xs ++ cs.toList) → w.grownBy w' v.ownBlock → ((Value.slice A' (n + 1) c').ownBlock = v.ownBlock ∨ (Value.slice A' (n + 1) c').ownBlock = some w.heap.size) → K (a.put o.dst (.slice A' (n + 1) c')) w') :
    if Region.wanted o (yielded ops a.tmps) = true then Oper.wp P o a w K Q else E := by
  have hw : Region.wanted o (yielded ops a.tmps) = true := by simp [Region.wanted, hgd]
  rw [if_pos hw]
  exact wp_append_one s x t ho base e i z size bytes ht hi hz hsize hby hzs hsz hb1 v n xs hs hown g cs hx hblk hcs h1 hn hbase h
end

theorem own_mono {w : World} {B B' : Nat} {e : TypeId} {s n : Nat} {xs : List Value} {v : Value} (h : w.ownsRow B e s v n xs) (hB : B' ≤ B) : w.ownsRow B' e s v n xs := by
  refine ⟨h.1, ?_⟩
  rcases h.2 with h2 | ⟨g, cap, cur, hv, hb, r⟩
  · exact .inl h2
  · exact .inr ⟨g, cap, cur, hv, by omega, r⟩
theorem own_below {w w' : World} {B : Nat} {e : TypeId} {s n : Nat} {xs : List Value} {v : Value} (h : w.ownsRow B e s v n xs) (hb : Below w.heap.size w w') : w'.ownsRow B e s v n xs :=
  h.kept (row := none) ⟨hb.os, hb.tape, hb.output, hb.size, fun k hk _ => hb.block k hk⟩ (by cases hv : v.ownBlock <;> simp)
theorem own_setCell_far {w : World} {B : Nat} {e : TypeId} {s n : Nat} {xs : List Value} {v : Value} (h : w.ownsRow B e s v n xs) {p : Addr} (hp : p.block < B) (u : Value) : (w.setCell p u).ownsRow B e s v n xs :=
  ownsRow_setCell_below h hp u
/-- What an append to a row from base on leaves is below the base as it was. -/
theorem below_appended {a w w' : World} {B base : Nat} {e : TypeId} {s n : Nat} {xs : List Value} {v : Value} (h : Below B a w) (hown : w.ownsRow base e s v n xs) (hg : w.grownBy w' v.ownBlock) (hB : B ≤ base) (hw : B ≤ w.heap.size) : Below B a w' :=
  h.grown hg hw fun k hk => by have := (hown.lt k hk).1; omega
theorem blk_appended {w w' : World} {g base : Nat} {e t : TypeId} {s n : Nat} {xs : List Value} {v : Value} {cs : Array Value} (h : Blk w g t cs) (hown : w.ownsRow base e s v n xs) (hg : w.grownBy w' v.ownBlock) (hB : g < base) : Blk w' g t cs :=
  h.grown hg fun e => by have := (hown.lt g e.symm).1; omega

end Go.Proofs.YtlnckjemfabckaaGreatDoor

/-
  Plain lists: what walks over slices want of them.
-/
namespace Go.Proofs.YtlnckjemfabckaaGreatDoor
open Go.RowKit

theorem take_snoc' {α} (l : List α) (k : Nat) (h : k < l.length) : l.take (k + 1) = l.take k ++ [l[k]] := by
  rw [List.take_succ_eq_append_getElem h]

/-- Words as cells. -/
def ints (κ : IntKind) (l : List Int) : List Value := l.map (Value.int κ)
theorem ints_len {κ : IntKind} (l : List Int) : (ints κ l).length = l.length := by simp [ints]
theorem ints_get {κ : IntKind} (l : List Int) (k : Nat) (h : k < l.length) : (ints κ l)[k]? = some (.int κ l[k]) := by simp [ints, h]
theorem ints_append {κ : IntKind} (l m : List Int) : ints κ (l ++ m) = ints κ l ++ ints κ m := by simp [ints]

/-- Pairs of words as cells. -/
def rec2 (l : List (Int × Int)) : List Value := l.flatMap fun r => [.int .u64 r.1, .int .u64 r.2]
theorem rec2_append (l m : List (Int × Int)) : rec2 (l ++ m) = rec2 l ++ rec2 m := by simp [rec2]
theorem rec2_len (l : List (Int × Int)) : (rec2 l).length = l.length * 2 := by
  induction l with
  | nil => rfl
  | cons r l ih =>
    have : (rec2 (r :: l)) = .int .u64 r.1 :: .int .u64 r.2 :: rec2 l := rfl
    rw [this]
    simp only [List.length_cons, ih]
    omega
theorem rec2_get (l : List (Int × Int)) : ∀ (k : Nat) (h : k < l.length), (rec2 l)[k * 2]? = some (.int .u64 l[k].1) ∧ (rec2 l)[k * 2 + 1]? = some (.int .u64 l[k].2) := by
  induction l with
  | nil => intro k h; simp at h
  | cons r l ih =>
    intro k h
    cases k with
    | zero => simp [rec2]
    | succ k =>
      have := ih k (by simpa using h)
      have e1 : (k + 1) * 2 = k * 2 + 2 := by omega
      have e2 : (k + 1) * 2 + 1 = k * 2 + 1 + 2 := by omega
      simpa [rec2, e1, e2] using this

/-- Bounds of a word. -/
def W64 (x : Int) : Prop := 0 ≤ x ∧ x ≤ 18446744073709551615
def I64 (x : Int) : Prop := -9223372036854775808 ≤ x ∧ x ≤ 9223372036854775807
theorem W64.of_wf {x : Int} (h : (Lit.int .u64 x).wf = true) : W64 x := by
  simp [Lit.wf, IntKind.min, IntKind.max, IntKind.signed, IntKind.bits] at h
  exact ⟨by omega, by omega⟩
theorem I64.of_wf {x : Int} (h : (Lit.int .i64 x).wf = true) : I64 x := by
  simp [Lit.wf, IntKind.min, IntKind.max, IntKind.signed, IntKind.bits] at h
  exact ⟨by omega, by omega⟩

end Go.Proofs.YtlnckjemfabckaaGreatDoor

/-
  Readings of words and of pairs of words, asked at an index.
-/
namespace Go.Proofs.YtlnckjemfabckaaGreatDoor
open Go.RowKit

theorem Reads.word {w : World} {B n k : Nat} {A : Option Addr} {κ : IntKind} {l : List Int} (h : Reads w B 1 A n (ints κ l)) (hk : k < n) :
    ∃ a, A = some a ∧ ∃ hl : k < l.length, w.cell? (a.add k) = some (.int κ l[k]) := by
  have hl : k < l.length := by
    have := h.1
    rw [ints_len, Nat.mul_one] at this
    omega
  obtain ⟨a, ha, _, x, _⟩ := h.row hk
  have x1 := x (by omega)
  rw [Nat.mul_one] at x1
  exact ⟨a, ha, hl, x1.trans (ints_get l k hl)⟩

theorem Reads.pair {w : World} {B n k : Nat} {A : Option Addr} {l : List (Int × Int)} (h : Reads w B 2 A n (rec2 l)) (hk : k < n) :
    ∃ a, A = some a ∧ ∃ hl : k < l.length, w.cell? (a.add (k * 2)) = some (.int .u64 l[k].1) ∧ w.cell? ⟨(a.add (k * 2)).block, (a.add (k * 2)).off + 1, none⟩ = some (.int .u64 l[k].2) := by
  have hl : k < l.length := by
    have := h.1
    rw [rec2_len] at this
    omega
  obtain ⟨a, ha, _, x, y⟩ := h.row hk
  obtain ⟨y1, y2⟩ := rec2_get l k hl
  exact ⟨a, ha, hl, (x (by omega)).trans y1, (y 1 (by omega) (by omega)).trans y2⟩

theorem Reads.lenWord {w : World} {B n : Nat} {A : Option Addr} {κ : IntKind} {l : List Int} (h : Reads w B 1 A n (ints κ l)) : l.length = n := by
  have := h.1
  rw [ints_len, Nat.mul_one] at this
  exact this
theorem Reads.lenPair {w : World} {B n : Nat} {A : Option Addr} {l : List (Int × Int)} (h : Reads w B 2 A n (rec2 l)) : l.length = n := by
  have := h.1
  rw [rec2_len] at this
  omega
theorem filter_len_take {α : Type} (p : α → Bool) (l : List α) (k : Nat) : ((l.take k).filter p).length ≤ k := by
  have h1 := List.length_filter_le p (l.take k)
  have h2 : (l.take k).length ≤ k := List.length_take_le _ _
  omega
theorem filter_snoc_yes {α : Type} {p : α → Bool} {l : List α} {x : α} (h : p x = true) : (l ++ [x]).filter p = l.filter p ++ [x] := by simp [List.filter_append, h]
theorem filter_snoc_no {α : Type} {p : α → Bool} {l : List α} {x : α} (h : p x = false) : (l ++ [x]).filter p = l.filter p := by simp [List.filter_append, h]
end Go.Proofs.YtlnckjemfabckaaGreatDoor

/-
  Package num: form, Text, Hex, Int, and the reference's.
-/
namespace Go.Proofs.YtlnckjemfabckaaGreatDoor
open Go.RowKit

def digC (d : Nat) : Int := if d < 10 then 48 + d else 87 + d
/-- The digits of a number, ahead of others. -/
def formL (b : Nat) : Nat → Nat → List Int → List Int
  | 0, _, acc => acc
  | f + 1, n, acc => if n = 0 then acc else formL b f (n / b) (digC (n % b) :: acc)
def form (b n : Nat) : List Int := if n = 0 then [48] else formL b 64 n []

theorem infoU8 : (Tryz.prog.info? 5).map (fun i => (i.zero, i.size, i.bytes)) = some (some (.int .u8 0), 1, 1) := by kernel_rfl
theorem ints_one {κ : IntKind} (l : List Int) : ∀ u ∈ ints κ l, u.oneCell' = true := by
  intro u hu
  unfold ints at hu
  obtain ⟨x, _, rfl⟩ := List.mem_map.1 hu
  rfl

theorem own_one (w : World) (v : Value) (lo : Nat) (h : lo ≤ w.heap.size) : (w.alloc (.cells #[v] 5)).ownsRow lo 5 1 (.slice (some ⟨w.heap.size, 0, none⟩) 1 1) 1 [v] :=
  ⟨rfl, .inr ⟨w.heap.size, 1, #[v], rfl, h, heap_alloc_new w _, Nat.le_refl _, by unfold maxLen; omega, rfl, rfl⟩⟩
theorem dig_at (d : Nat) (h : d < 16) : ∀ h', (((⟨#[48, 49, 50, 51, 52, 53, 54, 55, 56, 57, 97, 98, 99, 100, 101, 102]⟩ : ByteArray)[d]'h').toNat : Int) = digC d := by
  intro h'
  match d, h with
  | 0, _ | 1, _ | 2, _ | 3, _ | 4, _ | 5, _ | 6, _ | 7, _ | 8, _ | 9, _ | 10, _ | 11, _ | 12, _ | 13, _ | 14, _ | 15, _ => rfl
  | n + 16, h => omega

theorem conv_own {w : World} {lo m : Nat} {v : Value} {acc : List Int} (h : w.ownsRow lo 5 1 v m (ints .u8 acc)) : (convert 118 9 v).run Tryz.prog w = .ok (.string (strOfNums acc)) w := by
  have hm : acc.length = m := by have := h.1; rw [ints_len] at this; omega
  subst hm
  rcases h.2 with ⟨rfl, h0⟩ | ⟨g, cap, cur, rfl, _, hg, hc, _, hs, ht⟩
  · have : acc = [] := List.eq_nil_of_length_eq_zero h0
    subst this
    rw [run_convert_bytes_nil w 118 5 Tryz.underlying118 Tryz.underlying5 0 0 _ Tryz.underlying9]
    rfl
  · refine run_convert_bytes_arg w 118 5 Tryz.underlying118 Tryz.underlying5 g 0 acc.length cap acc rfl (fun i hi => ?_) _ Tryz.underlying9
    have h1 := cell_of_row w g i cur 5 (0, 0) hg
    rw [Nat.zero_add, h1]
    have h2 : (ints .u8 acc)[i]? = some (.int .u8 acc[i]) := ints_get acc i hi
    rw [← ht, List.getElem?_take] at h2
    rw [if_pos (by omega)] at h2
    rw [← Array.getElem?_toList, h2]
    simp [List.getD, hi]

def FormIn (b : Nat) (R : List Int) (w : World) (f : Nat) (v0 v5 : Value) (wr : World) : Prop :=
  ∃ (x m : Nat) (acc : List Int), v0 = .int .u64 x ∧ x < 2 ^ f ∧ x < 18446744073709551616 ∧ formL b f x acc = R ∧ m = acc.length ∧ m + f ≤ 64 ∧ wr.ownsRow w.heap.size 5 1 v5 m (ints .u8 acc) ∧ Below w.heap.size w wr

set_option maxHeartbeats 1000000 in
theorem form_any (b n : Nat) (w : World) (hb : b = 10 ∨ b = 16) (hn : n < 18446744073709551616) :
    Calls Tryz.prog 88 #[.int .u64 n, .int .u64 b] w fun e w' => e = .returned (.string (strOfNums (form b n))) ∧ Below w.heap.size w w' := by
  obtain ⟨i0, hi0, hz0, hs0, hb0⟩ := info_parts infoU8
  by_cases h0 : n = 0
  · subst h0
    have E := hide (show strOfNums (form b 0) = ⟨#[48]⟩ from rfl)
    go_enter Tryz.func88, Tryz.ntmps88
    go_wp2_with fail
    go_ret
    exact ⟨by rw [E.out]; rfl, Below.refl _ _⟩
  · have E := hide (show form b n = formL b 64 n [] from if_neg h0)
    have q0 : ((n : Int) == 0) = false := by simp; omega
    go_enter Tryz.func88, Tryz.ntmps88
    go_wp2_with fail
    go_loopg [0, 5] 64 (FormIn b (form b n) w)
    case atStart => exact ⟨n, 0, [], rfl, by simpa using hn, hn, E.out.symm, rfl, by omega, World.ownsRow_nil _ _ _ _, Below.refl _ _⟩
    case round =>
      obtain ⟨x, m, acc, rfl, hx1, hx2, hR, hm, hmf, hown, hbl⟩ := hrel
      have HR := hide hR
      have HM := hide hm
      have hsz := hbl.size
      clear hR hm
      by_cases hx : 0 < x
      · obtain ⟨f, rfl⟩ : ∃ f, gk = f + 1 := ⟨gk - 1, by
          rcases gk with _ | g
          · simp at hx1; omega
          · rfl⟩
        have b2 : 2 ≤ b ∧ b ≤ 16 := by omega
        have d1 : x % b < b := Nat.mod_lt _ (by omega)
        have y1 : x / b < 2 ^ f := by
          rw [Nat.pow_succ] at hx1
          exact Nat.div_lt_of_lt_mul (by have := Nat.mul_le_mul_right (2 ^ f) b2.1; omega)
        have y2 : x / b ≤ x := Nat.div_le_self _ _
        have E2 := hide (show formL b f (x / b) (digC (x % b) :: acc) = form b n by rw [← HR.out]; exact (if_neg (by omega)).symm)
        have t1 : (x : Int).tmod (b : Int) = ((x % b : Nat) : Int) := by rw [Int.tmod_eq_emod_of_nonneg (by omega)]; rfl
        have t2 : (x : Int).tdiv (b : Int) = ((x / b : Nat) : Int) := by rw [Int.tdiv_eq_ediv_of_nonneg (by omega)]; rfl
        have hbz : ((b : Int) == 0) = false := by simp; omega
        have hbz2 : ¬ ((b : Int) = 0) := by omega
        have d16 : x % b < 16 := by omega
        clear hx1 HR
        generalize x % b = d at *
        generalize x / b = y at *
        obtain ⟨A, c5, rfl, hr5⟩ := own_reads hown
        have dd := dig_at d d16
        have ho1 := own_one wr (.int .u8 (digC d)) w.heap.size hsz
        have hr6 := hr5.alloc (Nat.le_refl _) (.cells #[.int .u8 (digC d)] 5)
        have hm64 : m ≤ 64 := by omega
        generalize digC d = dc at *
        go_wp2_with (at_builtin; refine wpList_append_any _ rfl (.tmp 14) (.tmp 15) _ rfl w.heap.size 5 i0 _ 1 1 Tryz.underlying118 hi0 hz0 hs0 hb0 rfl (by omega) _ 1 _ rfl ho1 wr.heap.size A m c5 (ints .u8 acc) rfl hr6 (ints_one _) (by unfold maxLen; omega) (by omega) (by simp; omega) ?_; intro v3 w3 hown3 hg3 hat3)
        have hb3 := below_appended (hbl.alloc hsz _) ho1 hg3 (Nat.le_refl _) (by simp; omega)
        go_roundg f
        case measure => omega
        case rel => exact ⟨y, 1 + m, dc :: acc, rfl, y1, by omega, E2.out, by rw [List.length_cons, ← HM.out]; omega, by omega, hown3, hb3⟩
      · obtain rfl : x = 0 := by omega
        have hR2 : acc = form b n := by
          rw [← HR.out]
          cases gk <;> rfl
        rw [hR2] at hown
        have hcv := conv_own hown
        clear E HR hx1
        go_wp2_with fail
        go_ret
        exact ⟨rfl, hbl⟩
end Go.Proofs.YtlnckjemfabckaaGreatDoor

/-
  Package num: Text, Hex, Int; the reference's Form, Int.
-/
namespace Go.Proofs.YtlnckjemfabckaaGreatDoor
open Go.RowKit

theorem strOf_cons (x : Int) (xs : List Int) : strOfNums (x :: xs) = strOfNums [x] ++ strOfNums xs := by
  apply ByteArray.ext
  simp [strOfNums]
theorem strOf_size (xs : List Int) : (strOfNums xs).size = xs.length := by simp [strOfNums, ByteArray.size]
theorem formL_len (b : Nat) : ∀ (f n : Nat) (acc : List Int), (formL b f n acc).length ≤ f + acc.length
  | 0, _, acc => by simp [formL]
  | f + 1, n, acc => by
    unfold formL
    split
    · omega
    · have := formL_len b f (n / b) (digC (n % b) :: acc)
      simp only [List.length_cons] at this
      omega
theorem form_len (b n : Nat) : (form b n).length ≤ 64 := by
  unfold form
  split
  · simp
  · have := formL_len b 64 n []
    simpa using this
theorem form_size (b n : Nat) : (strOfNums (form b n)).size ≤ 64 := by rw [strOf_size]; exact form_len b n
set_option maxRecDepth 100000 in
theorem slice_dig (d : Nat) (h : d < 16) : ∀ w : World, (Instr.slice 9 (.string ⟨#[48, 49, 50, 51, 52, 53, 54, 55, 56, 57, 97, 98, 99, 100, 101, 102]⟩) (some (.int .i64 (d : Int))) (some (.int .i64 ((d : Int) + 1))) none).run Tryz.prog w = .ok (.string (strOfNums [digC d])) w := by
  have hd : d = 0 ∨ d = 1 ∨ d = 2 ∨ d = 3 ∨ d = 4 ∨ d = 5 ∨ d = 6 ∨ d = 7 ∨ d = 8 ∨ d = 9 ∨ d = 10 ∨ d = 11 ∨ d = 12 ∨ d = 13 ∨ d = 14 ∨ d = 15 := by omega
  intro w
  clear h
  rcases hd with rfl | rfl | rfl | rfl | rfl | rfl | rfl | rfl | rfl | rfl | rfl | rfl | rfl | rfl | rfl | rfl
  all_goals rfl

set_option maxHeartbeats 400000 in
theorem text_any (n : Nat) (w : World) (hn : n < 18446744073709551616) : Calls Tryz.prog 47 #[.int .u64 n] w fun e w' => e = .returned (.string (strOfNums (form 10 n))) ∧ Below w.heap.size w w' := by
  have F := hide (form_any 10 n w (by omega) hn)
  generalize strOfNums (form 10 n) = s at *
  have zz : (((10 : Nat)) : Int) = 10 := rfl
  rw [zz] at F
  clear zz
  go_enter Tryz.func47, Tryz.ntmps47
  go_wp2_with fail
  refine F.out.mono ?_
  rintro e w1 ⟨rfl, hb1⟩
  go_wp2_with fail
  go_ret
  exact ⟨rfl, hb1⟩

def intL (i : Int) : List Int := if i < 0 then 45 :: form 10 (-i).toNat else form 10 i.toNat
set_option maxHeartbeats 400000 in
theorem int_any (i : Int) (w : World) (hi : I64 i) : Calls Tryz.prog 61 #[.int .i64 i] w fun e w' => e = .returned (.string (strOfNums (intL i))) ∧ Below w.heap.size w w' := by
  obtain ⟨h1, h2⟩ := hi
  by_cases c : i < 0
  · obtain ⟨n, hn⟩ : ∃ n : Nat, (-i) = n := ⟨(-i).toNat, by omega⟩
    have E := hide (show strOfNums (intL i) = ⟨#[45]⟩ ++ strOfNums (form 10 n) by
      unfold intL
      rw [if_pos c, strOf_cons, hn]
      rfl)
    have F := hide (text_any n w (by omega))
    have e1 : wrap64 (-(i + 1)) = (n : Int) - 1 := by unfold wrap64; omega
    have e2 : (n : Int) - 1 + 1 = n := by omega
    have n1 : 1 ≤ n ∧ n ≤ 9223372036854775808 := by omega
    have e3 : (n : Int) = -(i + 1) + 1 := by omega
    rw [e3] at F
    clear hn e1 e2 e3
    have hs := form_size 10 n
    generalize strOfNums (form 10 n) = s at *
    go_enter Tryz.func61, Tryz.ntmps61
    go_wp2_with fail
    refine F.out.mono ?_
    rintro e w1 ⟨rfl, hb1⟩
    go_wp2_with fail
    go_ret
    exact ⟨by rw [E.out]; rfl, hb1⟩
  · obtain ⟨n, rfl⟩ := Int.eq_ofNat_of_zero_le (show 0 ≤ i by omega)
    have E := hide (show strOfNums (intL n) = strOfNums (form 10 n) by
      unfold intL
      rw [if_neg c, Int.toNat_natCast])
    have F := hide (text_any n w (by omega))
    rw [E.out]
    generalize strOfNums (form 10 n) = s at *
    clear E
    go_enter Tryz.func61, Tryz.ntmps61
    go_wp2_with fail
    refine F.out.mono ?_
    rintro e w1 ⟨rfl, hb1⟩
    go_wp2_with fail
    go_ret
    exact ⟨rfl, hb1⟩

def RFormIn (b : Nat) (R : List Int) (w : World) (f : Nat) (v0 v5 : Value) (wr : World) : Prop :=
  ∃ (x : Nat) (acc : List Int), v0 = .int .u64 x ∧ x < 2 ^ f ∧ x < 18446744073709551616 ∧ (if x = 0 then 48 :: acc else formL b f x acc) = R ∧ v5 = .string (strOfNums acc) ∧ acc.length + f ≤ 64 ∧ Below w.heap.size w wr

set_option maxHeartbeats 1000000 in
theorem rform_any (b n : Nat) (w : World) (hb : b = 10 ∨ b = 16) (hn : n < 18446744073709551616) :
    Calls Tryz.prog 93 #[.int .u64 n, .int .u64 b] w fun e w' => e = .returned (.string (strOfNums (form b n))) ∧ Below w.heap.size w w' := by
  go_enter Tryz.func93, Tryz.ntmps93
  go_wp2_with fail
  go_loopg [0, 5] 64 (RFormIn b (form b n) w)
  case atStart => exact ⟨n, [], rfl, by simpa using hn, hn, rfl, rfl, by simp, Below.refl _ _⟩
  case round =>
    obtain ⟨x, acc, rfl, hx1, hx2, hR, rfl, hal, hbl⟩ := hrel
    have z1 : (strOfNums acc).size ≤ 64 := by rw [strOf_size]; omega
    have HR := hide hR
    clear hR
    have b2 : 2 ≤ b ∧ b ≤ 16 := by omega
    have d1 : x % b < b := Nat.mod_lt _ (by omega)
    have y2 : x / b ≤ x := Nat.div_le_self _ _
    have t1 : (x : Int).tmod (b : Int) = ((x % b : Nat) : Int) := by rw [Int.tmod_eq_emod_of_nonneg (by omega)]; rfl
    have t2 : (x : Int).tdiv (b : Int) = ((x / b : Nat) : Int) := by rw [Int.tdiv_eq_ediv_of_nonneg (by omega)]; rfl
    have hbz : ((b : Int) == 0) = false := by simp; omega
    have hbz2 : ¬ ((b : Int) = 0) := by omega
    have d16 : x % b < 16 := by omega
    have S1 := hide (strOf_cons (digC (x % b)) acc)
    generalize hd : x % b = d at *
    generalize hy : x / b = y at *
    have HD := hide hd
    have HY := hide hy
    clear hd hy
    have sd := slice_dig d d16
    have z2 : (strOfNums [digC d]).size = 1 := by rw [strOf_size]; rfl
    replace z2 : (strOfNums [digC d]).size ≤ 1 := by omega
    by_cases hy0 : y = 0
    · subst hy0
      have Hfin := hide (show form b n = digC d :: acc by
        rw [← HR.out]
        have e1 := HD.out
        have e2 := HY.out
        by_cases hx0 : x = 0
        · rw [if_pos hx0]
          subst hx0
          have : d = 0 := by rw [← e1]; exact Nat.zero_mod b
          rw [this]
          rfl
        · rw [if_neg hx0]
          rcases gk with _ | f
          · simp at hx1; omega
          · show (if x = 0 then acc else formL b f (x / b) (digC (x % b) :: acc)) = _
            rw [if_neg hx0, e1, e2]
            cases f <;> rfl)
      have Hf := hide (show strOfNums (form b n) = strOfNums [digC d] ++ strOfNums acc by rw [Hfin.out, S1.out])
      clear HR S1 Hfin
      generalize strOfNums [digC d] = s1 at *
      generalize strOfNums acc = s2 at *
      go_wp2_with fail
      go_ret
      exact ⟨by rw [Hf.out]; rfl, hbl⟩
    · have hx0 : x ≠ 0 := by
        intro e
        apply hy0
        rw [← HY.out, e]
        exact Nat.zero_div b
      obtain ⟨f, rfl⟩ : ∃ f, gk = f + 1 := ⟨gk - 1, by
          rcases gk with _ | g
          · simp at hx1; omega
          · rfl⟩
      have y1 : y < 2 ^ f := by
        rw [← HY.out]
        rw [Nat.pow_succ] at hx1
        exact Nat.div_lt_of_lt_mul (by have := Nat.mul_le_mul_right (2 ^ f) b2.1; omega)
      have Hr := hide (show (if y = 0 then 48 :: (digC d :: acc) else formL b f y (digC d :: acc)) = form b n by
        rw [← HR.out, if_neg hy0, if_neg hx0]
        show _ = (if x = 0 then acc else formL b f (x / b) (digC (x % b) :: acc))
        rw [if_neg hx0, HD.out, HY.out])
      have hy3 : ((y : Int) == 0) = false := by simp; omega
      have hy4 : ¬ ((y : Int) = 0) := by omega
      clear HR hx1
      have S2 := S1.out.symm
      have HS := hide S2
      clear S2 S1
      have hs1 := hide (strOf_cons (digC d) acc)
      generalize hz1 : strOfNums [digC d] = s1 at *
      generalize hz2 : strOfNums acc = s2 at *
      have HZ := hide hz2
      clear hz1 hz2
      go_wp2_with fail
      go_roundg f
      case measure => omega
      case rel => exact ⟨y, digC d :: acc, rfl, y1, by omega, Hr.out, by rw [← HS.out], by simp only [List.length_cons]; omega, hbl⟩
end Go.Proofs.YtlnckjemfabckaaGreatDoor

/-
  Package num: reader, Parse, Unhex.
-/
namespace Go.Proofs.YtlnckjemfabckaaGreatDoor
open Go.RowKit

def digs : List UInt8 := [48, 49, 50, 51, 52, 53, 54, 55, 56, 57, 97, 98, 99, 100, 101, 102]
def dv (c : UInt8) : Int := Lib.indexByte digs c
theorem ixb_range : ∀ (l : List UInt8) (c : UInt8), Lib.indexByte l c = -1 ∨ ∃ d : Nat, d < l.length ∧ Lib.indexByte l c = d
  | [], _ => .inl rfl
  | b :: l, c => by
    unfold Lib.indexByte
    by_cases h : (b == c) = true
    · rw [if_pos h]
      exact .inr ⟨0, by simp, rfl⟩
    · rw [if_neg h]
      rcases ixb_range l c with h1 | ⟨d, h1, h2⟩
      · rw [h1]
        exact .inl rfl
      · rw [h2]
        refine .inr ⟨d + 1, by simpa using h1, ?_⟩
        have : ((d : Int) == -1) = false := by rw [beq_eq_false_iff_ne]; omega
        rw [this]
        rfl

def dU (c : UInt8) : Nat := if dv c < 0 then 18446744073709551615 else (dv c).toNat
theorem dU_cases (c : UInt8) : (dv c = -1 ∧ dU c = 18446744073709551615) ∨ ∃ d : Nat, d < 16 ∧ dv c = d ∧ dU c = d := by
  rcases ixb_range digs c with h | ⟨d, h1, h2⟩
  · exact .inl ⟨h, by unfold dU; rw [show dv c = -1 from h]; rfl⟩
  · refine .inr ⟨d, h1, h2, ?_⟩
    unfold dU
    rw [show dv c = d from h2, if_neg (by omega), Int.toNat_natCast]
/-- The digits of a text, read to a base: the word so far, and whether it went over; none: some byte is no digit. -/
def rd (b : Nat) : List UInt8 → Nat → Bool → Option (Nat × Bool)
  | [], n, o => some (n, o)
  | c :: l, n, o => if b ≤ dU c then none else rd b l ((n * b + dU c) % 18446744073709551616) (o || decide ((18446744073709551615 - dU c) / b < n))
def rdRes (b : Nat) (l : List UInt8) : Nat × Int :=
  match rd b l 0 false with
  | none => (0, 4)
  | some (n, o) => if l = [] ∨ (l.getD 0 0 = 48 ∧ 1 < l.length) then (0, 4) else if o = true then (0, 5) else (n, 0)

def RdIn (b : Nat) (s : ByteArray) (w : World) (v5 v6 v11 : Value) (wr : World) : Prop :=
  ∃ (k n : Nat) (o : Bool), k ≤ s.size ∧ v11 = .int .i64 k ∧ v5 = .int .u64 n ∧ v6 = .bool o ∧ n < 18446744073709551616 ∧ rd b (s.data.toList.drop k) n o = rd b s.data.toList 0 false ∧ wr = w

end Go.Proofs.YtlnckjemfabckaaGreatDoor

/-
  Package num: Parse, Unhex; the reference's Int; the example.
-/
namespace Go.Proofs.YtlnckjemfabckaaGreatDoor
open Go.RowKit

set_option maxHeartbeats 400000 in
theorem rint_any (i : Int) (w : World) (hi : I64 i) : Calls Tryz.prog 64 #[.int .i64 i] w fun e w' => e = .returned (.string (strOfNums (intL i))) ∧ Below w.heap.size w w' := by
  obtain ⟨h1, h2⟩ := hi
  by_cases c : i < 0
  · by_cases hm : i = -9223372036854775808
    · subst hm
      have E := hide (show strOfNums (intL (-9223372036854775808)) = ⟨#[45, 57, 50, 50, 51, 51, 55, 50, 48, 51, 54, 56, 53, 52, 55, 55, 53, 56, 48, 56]⟩ by rfl)
      go_enter Tryz.func64, Tryz.ntmps64
      go_wp2_with fail
      go_ret
      exact ⟨by rw [E.out]; rfl, Below.refl _ _⟩
    · obtain ⟨n, hn⟩ : ∃ n : Nat, (-i) = n := ⟨(-i).toNat, by omega⟩
      have E := hide (show strOfNums (intL i) = ⟨#[45]⟩ ++ strOfNums (form 10 n) by
        unfold intL
        rw [if_pos c, strOf_cons, hn]
        rfl)
      have F := hide (rform_any 10 n w (by omega) (by omega))
      rw [show ((10 : Nat) : Int) = 10 from rfl, show (n : Int) = -i from hn.symm] at F
      have q1 : (i == -9223372036854775808) = false := by simpa using hm
      have hs := form_size 10 n
      have l1 : -9223372036854775807 ≤ i := by omega
      clear hn
      generalize strOfNums (form 10 n) = s at *
      go_enter Tryz.func64, Tryz.ntmps64
      go_wp2_with fail
      refine F.out.mono ?_
      rintro e w1 ⟨rfl, hb1⟩
      go_wp2_with fail
      go_ret
      exact ⟨by rw [E.out]; rfl, hb1⟩
  · obtain ⟨n, rfl⟩ := Int.eq_ofNat_of_zero_le (show 0 ≤ i by omega)
    have E := hide (show strOfNums (intL n) = strOfNums (form 10 n) by
      unfold intL
      rw [if_neg c, Int.toNat_natCast])
    have F := hide (rform_any 10 n w (by omega) (by omega))
    rw [show ((10 : Nat) : Int) = 10 from rfl] at F
    rw [E.out]
    generalize strOfNums (form 10 n) = s at *
    clear E
    go_enter Tryz.func64, Tryz.ntmps64
    go_wp2_with fail
    refine F.out.mono ?_
    rintro e w1 ⟨rfl, hb1⟩
    go_wp2_with fail
    go_ret
    exact ⟨rfl, hb1⟩

end Go.Proofs.YtlnckjemfabckaaGreatDoor

/-
  dump's texts in plain words.
-/
namespace Go.Proofs.YtlnckjemfabckaaGreatDoor
def sp1 : ByteArray := ⟨#[32]⟩
def nl1 : ByteArray := ⟨#[10]⟩
def co1 : ByteArray := ⟨#[58]⟩
def eq1 : ByteArray := ⟨#[61]⟩
def none1 : ByteArray := ⟨#[110, 111, 110, 101]⟩
def joinT (ws : List ByteArray) : ByteArray := ⟨(Lib.join (ws.map (·.data.toList)) [32]).toArray⟩
theorem ba_assoc (a b c : ByteArray) : a ++ b ++ c = a ++ (b ++ c) := by
  apply ByteArray.ext
  simp [Array.append_assoc]
theorem joinTail_app (sep : List UInt8) (a b : List (List UInt8)) : Lib.joinTail sep (a ++ b) = Lib.joinTail sep a ++ Lib.joinTail sep b := by simp [Lib.joinTail]
theorem ba_of (l m : List UInt8) : (⟨(l ++ m).toArray⟩ : ByteArray) = ⟨l.toArray⟩ ++ ⟨m.toArray⟩ := by
  apply ByteArray.ext
  simp
theorem ba_self (b : ByteArray) : (⟨b.data.toList.toArray⟩ : ByteArray) = b := by
  apply ByteArray.ext
  simp
theorem joinT_one (x : ByteArray) : joinT [x] = x := by
  unfold joinT
  simp only [List.map_cons, List.map_nil]
  rw [Lib.join_one, ba_self]
theorem joinT_snoc (w : ByteArray) (ws : List ByteArray) (x : ByteArray) : joinT ((w :: ws) ++ [x]) = joinT (w :: ws) ++ sp1 ++ x := by
  unfold joinT
  simp only [List.cons_append, List.map_cons, List.map_append, List.map_nil]
  rw [Lib.join_cons, Lib.join_cons, joinTail_app, ← List.append_assoc, ba_of, ba_assoc]
  congr 1
  rw [show Lib.joinTail [32] [x.data.toList] = [32] ++ x.data.toList by simp [Lib.joinTail], ba_of, ba_self]
  rfl
theorem joinT_size_le (ws : List ByteArray) (k : Nat) (h : ∀ x ∈ ws, x.size ≤ k) : (joinT ws).size ≤ ws.length * (k + 1) := by
  have key : ∀ ws : List ByteArray, (∀ x ∈ ws, x.size ≤ k) → (Lib.joinTail [32] (ws.map (·.data.toList))).length ≤ ws.length * (k + 1) := by
    intro ws
    induction ws with
    | nil => intro _; simp [Lib.joinTail]
    | cons y r ih =>
      intro h
      have h1 := ih (fun x hx => h x (by simp [hx]))
      have h2 := h y (by simp)
      have e : Lib.joinTail [32] ((y :: r).map (·.data.toList)) = 32 :: (y.data.toList ++ Lib.joinTail [32] (r.map (·.data.toList))) := by simp [Lib.joinTail]
      rw [e]
      simp only [List.length_cons, List.length_append]
      have h3 : y.data.toList.length = y.size := Array.length_toList
      rw [Nat.add_mul]
      omega
  cases ws with
  | nil => simp [joinT, Lib.join_nil, ByteArray.size]
  | cons y r =>
    have h1 := key r (fun x hx => h x (by simp [hx]))
    have h2 := h y (by simp)
    have h3 : y.data.toList.length = y.size := Array.length_toList
    have e : (joinT (y :: r)).size = (Lib.join ((y :: r).map (·.data.toList)) [32]).length := by simp [joinT, ByteArray.size]
    rw [e, List.map_cons, Lib.join_cons, List.length_append, List.length_cons, Nat.add_mul]
    omega
/-- The name of a kind, of a list of names. -/
def nmd (L : List ByteArray) (k : Int) : ByteArray := if 1 ≤ k ∧ k ≤ L.length then L.getD (k - 1).toNat none1 else none1
theorem nmd_yes {L : List ByteArray} {k : Int} {j : Nat} {x : ByteArray} (hk : k = j + 1) (h : L[j]? = some x) : nmd L k = x := by
  unfold nmd
  have hj := (List.getElem?_eq_some_iff.1 h).1
  rw [if_pos (by omega), show (k - 1).toNat = j by omega, List.getD_eq_getElem?_getD, h]
  rfl
theorem nmd_no {L : List ByteArray} {k : Int} (h : k < 1 ∨ L.length < k) : nmd L k = none1 := by
  unfold nmd
  rw [if_neg (by omega)]
theorem nmd_size {L : List ByteArray} {n : Nat} (hn : 4 ≤ n) (h : ∀ x ∈ L, x.size ≤ n) (k : Int) : (nmd L k).size ≤ n := by
  unfold nmd
  split
  · rw [List.getD_eq_getElem?_getD]
    cases e : L[(k - 1).toNat]? with
    | none => exact hn
    | some x => exact h x (List.mem_of_getElem? e)
  · exact hn
def accL : List ByteArray := [⟨#[108, 111, 97, 100]⟩, ⟨#[115, 116, 111, 114, 101]⟩, ⟨#[99, 97, 115]⟩]
def markL : List ByteArray := [⟨#[98, 101, 103, 105, 110]⟩, ⟨#[99, 104, 101, 99, 107]⟩, ⟨#[109, 105, 115, 115]⟩, ⟨#[102, 105, 114, 109]⟩, ⟨#[97, 103, 97, 105, 110]⟩, ⟨#[114, 101, 115, 116, 97, 114, 116]⟩, ⟨#[97, 108, 108, 111, 99]⟩, ⟨#[114, 101, 116, 105, 114, 101]⟩, ⟨#[102, 114, 101, 101]⟩, ⟨#[97, 100, 118, 97, 110, 99, 101]⟩, ⟨#[101, 118, 105, 99, 116]⟩, ⟨#[101, 102, 102, 101, 99, 116]⟩, ⟨#[101, 109, 112, 116, 121]⟩]
def evL : List ByteArray := [⟨#[105, 110, 118, 111, 107, 101]⟩, ⟨#[114, 101, 115, 112, 111, 110, 100]⟩]
def kindL : List ByteArray := [⟨#[103, 101, 116]⟩, ⟨#[112, 117, 116]⟩, ⟨#[100, 101, 108, 101, 116, 101]⟩, ⟨#[115, 99, 97, 110]⟩]
def accS : ByteArray := ⟨#[108, 111, 97, 100, 32, 115, 116, 111, 114, 101, 32, 99, 97, 115]⟩
def markS : ByteArray := ⟨#[98, 101, 103, 105, 110, 32, 99, 104, 101, 99, 107, 32, 109, 105, 115, 115, 32, 102, 105, 114, 109, 32, 97, 103, 97, 105, 110, 32, 114, 101, 115, 116, 97, 114, 116, 32, 97, 108, 108, 111, 99, 32, 114, 101, 116, 105, 114, 101, 32, 102, 114, 101, 101, 32, 97, 100, 118, 97, 110, 99, 101, 32, 101, 118, 105, 99, 116, 32, 101, 102, 102, 101, 99, 116, 32, 101, 109, 112, 116, 121]⟩
def evS : ByteArray := ⟨#[105, 110, 118, 111, 107, 101, 32, 114, 101, 115, 112, 111, 110, 100]⟩
def kindS : ByteArray := ⟨#[32, 103, 101, 116, 32, 112, 117, 116, 32, 100, 101, 108, 101, 116, 101, 32, 115, 99, 97, 110]⟩
theorem acc_fields : (Lib.fields accS.data.toList).map (fun l => (⟨l.toArray⟩ : ByteArray)) = accL := by decide
theorem mark_fields : (Lib.fields markS.data.toList).map (fun l => (⟨l.toArray⟩ : ByteArray)) = markL := by decide
theorem ev_fields : (Lib.fields evS.data.toList).map (fun l => (⟨l.toArray⟩ : ByteArray)) = evL := by decide
theorem kind_fields : (Lib.fields kindS.data.toList).map (fun l => (⟨l.toArray⟩ : ByteArray)) = kindL := by decide
theorem accL_size : ∀ x ∈ accL, x.size ≤ 10 := by decide
theorem markL_size : ∀ x ∈ markL, x.size ≤ 10 := by decide
theorem evL_size : ∀ x ∈ evL, x.size ≤ 10 := by decide
theorem kindL_size : ∀ x ∈ kindL, x.size ≤ 10 := by decide
theorem ba_size (a b : ByteArray) : (a ++ b).size = a.size + b.size := by simp
def numT (n : Nat) : ByteArray := strOfNums (form 10 n)
def intT (i : Int) : ByteArray := strOfNums (intL i)
theorem numT_size (n : Nat) : (numT n).size ≤ 64 := form_size 10 n
theorem intT_size (i : Int) : (intT i).size ≤ 65 := by
  unfold intT
  rw [strOf_size]
  unfold intL
  split
  · have := form_len 10 (-i).toNat
    simp only [List.length_cons]
    omega
  · have := form_len 10 i.toNat
    omega
/-- A mark's word. -/
def markT (k : Int) (a b : Nat) : ByteArray :=
  if b = 0 then (if a = 0 then nmd markL k else nmd markL k ++ co1 ++ numT a) else nmd markL k ++ co1 ++ numT a ++ co1 ++ numT b
theorem markT_size (k : Int) (a b : Nat) : (markT k a b).size ≤ 140 := by
  have h1 := nmd_size (n := 10) (by omega) markL_size k
  have h2 := numT_size a
  have h3 := numT_size b
  have h4 : co1.size = 1 := rfl
  unfold markT
  split
  · split
    · omega
    · simp only [ba_size]; omega
  · simp only [ba_size]; omega
abbrev MarkR := Int × Nat × Nat
def MarkR.cells (m : MarkR) : List Value := [.int .i64 m.1, .int .u64 (m.2.1 : Nat), .int .u64 (m.2.2 : Nat)]
def MarkR.text (m : MarkR) : ByteArray := markT m.1 m.2.1 m.2.2
/-- A step: its numbers, and its marks, which lie where its slice says. -/
structure StepR where
  th : Int
  k : Int
  at_ : Int
  o : Nat
  n : Nat
  g : Nat
  ms : List MarkR
  A : Option Addr
  c : Nat
def StepR.cells (s : StepR) : List Value := [.int .i64 s.th, .int .i64 s.k, .int .i64 s.at_, .int .u64 (s.o : Nat), .int .u64 (s.n : Nat), .int .u64 (s.g : Nat), .slice s.A s.ms.length s.c]
/-- A step's words. -/
def stepW (th k at_ : Int) (o n g : Nat) (ms : List MarkR) : List ByteArray :=
  [intT th, nmd accL k, intT at_] ++ (if k = 3 then [numT o] else []) ++ (if k = 2 ∨ k = 3 then [numT n] else []) ++ [eq1, numT g] ++ ms.map MarkR.text
def stepT (th k at_ : Int) (o n g : Nat) (ms : List MarkR) : ByteArray := joinT (stepW th k at_ o n g ms)
def StepR.text (s : StepR) : ByteArray := stepT s.th s.k s.at_ s.o s.n s.g s.ms
theorem stepT_size (th k at_ : Int) (o n g : Nat) (ms : List MarkR) (h : ms.length ≤ 20) : (stepT th k at_ o n g ms).size ≤ 4000 := by
  have h1 := joinT_size_le (stepW th k at_ o n g ms) 140 (fun x hx => by
    unfold stepW at hx
    simp only [List.mem_append, List.mem_cons, List.not_mem_nil, or_false, List.mem_map] at hx
    have := nmd_size (n := 10) (by omega) accL_size k
    have := numT_size g
    have := intT_size th
    have := intT_size at_
    have := numT_size o
    have := numT_size n
    rcases hx with (((h | h) | h) | h) | ⟨m, _, rfl⟩
    · rcases h with rfl | rfl | rfl <;> omega
    · split at h <;> simp_all <;> omega
    · split at h <;> simp_all <;> omega
    · rcases h with rfl | rfl
      · decide
      · omega
    · exact markT_size _ _ _)
  have h2 : (stepW th k at_ o n g ms).length ≤ 27 := by
    unfold stepW
    simp only [List.length_append, List.length_cons, List.length_nil, List.length_map]
    split <;> split <;> simp <;> omega
  have := Nat.mul_le_mul_right 141 h2
  show (joinT (stepW th k at_ o n g ms)).size ≤ 4000
  omega
/-- Things' lines. -/
def linesT (ls : List ByteArray) : ByteArray := ls.foldl (fun a x => a ++ x ++ nl1) ⟨#[]⟩
theorem linesT_snoc (ls : List ByteArray) (x : ByteArray) : linesT (ls ++ [x]) = linesT ls ++ x ++ nl1 := by simp [linesT]
theorem linesT_size (k : Nat) (ls : List ByteArray) (h : ∀ x ∈ ls, x.size ≤ k) : (linesT ls).size ≤ ls.length * (k + 1) := by
  have key : ∀ (ls : List ByteArray) (a : ByteArray), (∀ x ∈ ls, x.size ≤ k) → (ls.foldl (fun a x => a ++ x ++ nl1) a).size ≤ a.size + ls.length * (k + 1) := by
    intro ls
    induction ls with
    | nil => intro a _; simp
    | cons x ls ih =>
      intro a h
      have h1 := ih (a ++ x ++ nl1) (fun y hy => h y (by simp [hy]))
      have h2 := h x (by simp)
      have h3 : nl1.size = 1 := rfl
      rw [List.foldl_cons, List.length_cons, Nat.add_mul]
      simp only [ba_size] at h1
      omega
  have := key ls ⟨#[]⟩ h
  have h0 : (⟨#[]⟩ : ByteArray).size = 0 := rfl
  unfold linesT
  omega
end Go.Proofs.YtlnckjemfabckaaGreatDoor

/-
  A law's row whose two listed variables start as the program's text lays them follows from one fact on its Go function: wherever the table of white space stands, the call hands back true and leaves what lay below the heap's old end as it was.
-/
namespace Go.Proofs.YtlnckjemfabckaaGreatDoor
open Go.ChangeShapes Go.WideShapes Go.ChangeAt Go.RowKit

section
variable {H : Type} {enc : TypeId × Value → H} {P : Program}

theorem trodAll_below (hl : laidOutB P = true) {W W' : World} (hb : Below W.heap.size W W') {sp : Nat → Bool} : ∀ {ts : List TypeId} {vs : List Value} {ds : List (DataW H)} {ps : List MemPlace},
    ts.all (fun t => P.readableRec t && decide (t < P.types.size)) = true → DataW.TrodAll enc P W 0 (fun _ => true) true ts vs ds ps → (∀ p ∈ ps, p.block < W.heap.size) → (∀ p ∈ ps, sp p.block = true) →
    DataW.TrodAll enc P W' 0 sp true ts vs ds ps
  | [], [], [], _, _, h, _, _ => h
  | t :: ts, v :: vs, d :: ds, ps, ht, h, hlt, hsp => by
    obtain ⟨p, q, h1, h2, rfl⟩ := h
    simp only [List.all_cons, Bool.and_eq_true, decide_eq_true_eq] at ht
    refine ⟨p, q, WideElems.Trod_stays hl ht.1.1 ht.1.2 h1 (fun x hx => hb.same (hlt x (by simp [hx]))) (fun x hx => hsp x (by simp [hx])), ?_, rfl⟩
    exact trodAll_below hl hb ht.2 h2 (fun x hx => hlt x (by simp [hx])) (fun x hx => hsp x (by simp [hx]))
  | [], _ :: _, _, _, _, h, _, _ => h.elim
  | [], [], _ :: _, _, _, h, _, _ => h.elim
  | _ :: _, [], _, _, _, h, _, _ => h.elim
  | _ :: _, _ :: _, [], _, _, h, _, _ => h.elim

theorem trodAll_length {W : World} {b : Nat} {sp : Nat → Bool} {hd : Bool} : ∀ {ts : List TypeId} {vs : List Value} {ds : List (DataW H)} {ps : List MemPlace}, DataW.TrodAll enc P W b sp hd ts vs ds ps → ds.length = ts.length
  | [], [], [], _, _ => rfl
  | _ :: _, _ :: _, _ :: _, _, h => by
    obtain ⟨_, _, _, h2, _⟩ := h
    simp [trodAll_length h2]
  | [], _ :: _, _, _, h => h.elim
  | [], [], _ :: _, _, h => h.elim
  | _ :: _, [], _, _, h => h.elim
  | _ :: _, _ :: _, [], _, h => h.elim

theorem trodAll_five {W : World} {b : Nat} {sp : Nat → Bool} {hd : Bool} {t0 t1 t2 t3 t4 : TypeId} {args : Array Value} {ds : List (DataW H)} {ps : List MemPlace} (h : DataW.TrodAll enc P W b sp hd [t0, t1, t2, t3, t4] args.toList ds ps) :
    ∃ v0 v1 v2 v3 v4 d0 d1 d2 d3 d4 p0 p1 p2 p3 p4, args = #[v0, v1, v2, v3, v4] ∧ ds = [d0, d1, d2, d3, d4] ∧ ps = p0 ++ p1 ++ p2 ++ p3 ++ p4 ∧ DataW.Trod enc P W b sp hd t0 v0 d0 p0 ∧ DataW.Trod enc P W b sp hd t1 v1 d1 p1 ∧ DataW.Trod enc P W b sp hd t2 v2 d2 p2 ∧ DataW.Trod enc P W b sp hd t3 v3 d3 p3 ∧ DataW.Trod enc P W b sp hd t4 v4 d4 p4 := by
  obtain ⟨v0, vs, d0, ds0, p0, q, hargs, rfl, rfl, h0, hr⟩ := trodAll_cons h
  obtain ⟨v1, vs1, d1, ds1, p1, q1, rfl, rfl, rfl, h1, hr⟩ := trodAll_cons hr
  obtain ⟨v2, vs2, d2, ds2, p2, q2, rfl, rfl, rfl, h2, hr⟩ := trodAll_cons hr
  obtain ⟨v3, vs3, d3, ds3, p3, q3, rfl, rfl, rfl, h3, hr⟩ := trodAll_cons hr
  obtain ⟨v4, vs4, d4, ds4, p4, q4, rfl, rfl, rfl, h4, hr⟩ := trodAll_cons hr
  obtain ⟨rfl, rfl, rfl⟩ := trodAll_nil hr
  exact ⟨v0, v1, v2, v3, v4, d0, d1, d2, d3, d4, p0, p1, p2, p3, p4, by cases args; simp_all, rfl, by simp, h0, h1, h2, h3, h4⟩
theorem trodAll_six {W : World} {b : Nat} {sp : Nat → Bool} {hd : Bool} {t0 t1 t2 t3 t4 t5 : TypeId} {args : Array Value} {ds : List (DataW H)} {ps : List MemPlace} (h : DataW.TrodAll enc P W b sp hd [t0, t1, t2, t3, t4, t5] args.toList ds ps) :
    ∃ v0 v1 v2 v3 v4 v5 d0 d1 d2 d3 d4 d5 p0 p1 p2 p3 p4 p5, args = #[v0, v1, v2, v3, v4, v5] ∧ ds = [d0, d1, d2, d3, d4, d5] ∧ ps = p0 ++ p1 ++ p2 ++ p3 ++ p4 ++ p5 ∧ DataW.Trod enc P W b sp hd t0 v0 d0 p0 ∧ DataW.Trod enc P W b sp hd t1 v1 d1 p1 ∧ DataW.Trod enc P W b sp hd t2 v2 d2 p2 ∧ DataW.Trod enc P W b sp hd t3 v3 d3 p3 ∧ DataW.Trod enc P W b sp hd t4 v4 d4 p4 ∧ DataW.Trod enc P W b sp hd t5 v5 d5 p5 := by
  obtain ⟨v0, vs, d0, ds0, p0, q, hargs, rfl, rfl, h0, hr⟩ := trodAll_cons h
  obtain ⟨v1, vs1, d1, ds1, p1, q1, rfl, rfl, rfl, h1, hr⟩ := trodAll_cons hr
  obtain ⟨v2, vs2, d2, ds2, p2, q2, rfl, rfl, rfl, h2, hr⟩ := trodAll_cons hr
  obtain ⟨v3, vs3, d3, ds3, p3, q3, rfl, rfl, rfl, h3, hr⟩ := trodAll_cons hr
  obtain ⟨v4, vs4, d4, ds4, p4, q4, rfl, rfl, rfl, h4, hr⟩ := trodAll_cons hr
  obtain ⟨v5, vs5, d5, ds5, p5, q5, rfl, rfl, rfl, h5, hr⟩ := trodAll_cons hr
  obtain ⟨rfl, rfl, rfl⟩ := trodAll_nil hr
  exact ⟨v0, v1, v2, v3, v4, v5, d0, d1, d2, d3, d4, d5, p0, p1, p2, p3, p4, p5, by cases args; simp_all, rfl, by simp, h0, h1, h2, h3, h4, h5⟩

theorem post_below {f : Func} {s : ChangeSpec} {apart fresh handsOn again : Bool} {W W' : World} {args : Array Value} {v : Value} {ds gs : List (DataW H)} {before : List MemPlace}
    (hvars : s.vars = []) (hargs : (s.fn H (ds ++ gs)).args = ds) (hgv : (s.fn H (ds ++ gs)).vars = []) (hl : laidOutB P = true) (ht : f.params.toList.all (fun t => P.readableRec t && decide (t < P.types.size)) = true)
    (hW : DataW.Whole enc P f.params.toList s.vars apart W args.toList ds gs before)
    (hres : ∀ (b : Nat) (sp : Nat → Bool) (hd : Bool), DataW.TrodAll enc P W' b sp hd f.resultTypes.toList (v.resultList f.resultTypes.size) (s.fn H (ds ++ gs)).results [])
    (hb : Below W.heap.size W W')
    (hok : ∀ (j : Nat) (t : TypeId) (r : Value), f.resultTypes[j]? = some t → (v.resultList f.resultTypes.size)[j]? = some r → Value.okWide P W' .any 0 t r) :
    s.post enc P f apart fresh handsOn again W args v W' := by
  have hlt : ∀ p ∈ before, p.block < W.heap.size := fun p hp => hW.lt p hp
  have hW0 := hW
  obtain ⟨p, q, hA, hV, hpq, hz, hn⟩ := hW0
  have hq : gs = [] ∧ q = [] := by
    rw [hvars] at hV
    cases gs with
    | nil => exact ⟨rfl, hV⟩
    | cons _ _ => exact hV.elim
  obtain ⟨rfl, rfl⟩ := hq
  simp only [List.append_nil] at hpq
  subst hpq
  have hA' : ∀ sp : Nat → Bool, (∀ x ∈ before, sp x.block = true) → DataW.TrodAll enc P W' 0 sp true f.params.toList args.toList (s.fn H (ds ++ [])).args before := fun sp hsp => by
    rw [hargs]
    exact trodAll_below hl hb ht hA hlt hsp
  have hV' : ∀ sp : Nat → Bool, DataW.TrodVars enc P W' sp s.vars (s.fn H (ds ++ [])).vars [] := fun sp => by
    rw [hgv, hvars]
    rfl
  have hold : ∀ x ∈ before, (fun b => decide (b < W.heap.size)) x.block = true := fun x hx => by simpa using hlt x hx
  refine ⟨ds, [], before, [], before, [], hW, hres _ _ _, hA' _ hold, hV' _, World.keptBut_mono (fun x hx => ⟨hx, .inr (.inl hx)⟩) (hb.frame (· ∈ before)), fun _ => ?_⟩
  refine ⟨hok, _, _, ([] ++ before) ++ [], ⟨[] ++ before, [], trodAll_append (hA' _ (fun _ _ => rfl)) (hres _ _ _), hV' _, rfl, ?_, ?_⟩, ?_⟩
  · intro b off hp
    have hin : MemPlace.cell b off ∈ before := by simpa using hp
    rw [hb.frozen (hlt _ hin)]
    exact hz b off hin
  · intro ha
    have := hn ha
    simpa using this
  · intro x hx _
    simpa using hx
end

theorem own_none : ownKnob Tryz.prog.godebug = none := by kernel_rfl
theorem laid_out : laidOutB Tryz.prog = true := by kernel_rfl

/-- The two variables that the rows list. -/
noncomputable def laid2 : List (String × DataW Unit) := [("unicode.White_Space", Rows.laid_unicode_White_Space), ("strings.asciiSpace", Rows.laid_strings_asciiSpace)]
theorem door_met (os : Os) (args : Array Value) : laidMetH Tryz.prog laid2 ((World.doorLaid Tryz.prog 400 os).forCall (fun _ _ => 0) ⟨#[], args, []⟩).memory :=
  laidMetH_of_parts3 (fuel := 8) (laidMet_of_run' 8 (by kernel_rfl) (by kernel_rfl)) (by kernel_rfl) (by kernel_rfl)

/-- The table of white space stands. -/
def Tab (W : World) : Prop := 0 < W.heap.size ∧ ∀ c : Nat, c < 256 → W.cell? ⟨0, c, none⟩ = some (.int .u8 (if Lib.isSp (UInt8.ofNat c) then 1 else 0))
theorem Tab.below {W W' : World} (h : Tab W) (hb : Below W.heap.size W W') : Tab W' :=
  ⟨Nat.lt_of_lt_of_le h.1 hb.size, fun c hc => (hb.cell (p := ⟨0, c, none⟩) h.1).trans (h.2 c hc)⟩
theorem named_space : Tryz.prog.globalNamed "strings.asciiSpace" = some 0 := by kernel_rfl
theorem type_space : (Tryz.prog.globals[0]?).map (·.type) = some 143 := by kernel_rfl

set_option maxRecDepth 100000 in
theorem tab_of_laid {W : World} (h : laidMetH Tryz.prog laid2 W) : Tab W := by
  rw [MakeChecks.laidMetH_plain _ _ _ (by kernel_rfl)] at h
  obtain ⟨ps, ⟨g0, t0, cs0, f0, p0, q0, hg0, ht0, hv0, hd0, ⟨g1, t1, cs1, f1, p1, q1, hg1, ht1, hv1, hd1, _, _⟩, _⟩, _, _⟩ := h
  obtain rfl := Option.some.inj (named_space.symm.trans hg1)
  obtain rfl := Option.some.inj (type_space.symm.trans ht1)
  have e : (Rows.laid_strings_asciiSpace : DataW Unit) = Lib.tabData .u8 Lib.asciiSpaceTab := by rfl
  rw [e] at hd1
  have hcs := Lib.cells_of_tab Tryz.underlying143 Tryz.underlying5 (by kernel_rfl) (by kernel_rfl) hd1
  have hT : Lib.TabIs Tryz.prog W "strings.asciiSpace" .u8 Lib.asciiSpaceTab := by
    unfold Lib.TabIs
    rw [hv1, ← hcs]
  have hc : ∀ c : Nat, c < 256 → W.cell? ⟨0, c, none⟩ = some (.int .u8 (if Lib.isSp (UInt8.ofNat c) then 1 else 0)) := fun c hc => by
    rw [hT.cell named_space c (by rw [Lib.asciiSpaceTab_length]; exact hc), Lib.asciiSpaceTab_at c hc]
  exact ⟨World.block_lt_of_cell? _ _ (hc 0 (by omega)), hc⟩

set_option maxRecDepth 100000 in
theorem shut_true {H : Type} {enc : TypeId × Value → H} {W' : World} {b : Nat} {sp : Nat → Bool} {hd : Bool} : DataW.TrodAll enc Tryz.prog W' b sp hd [4] [.bool true] [.lit (.bool true)] [] :=
  trodAll_mk1 (shut_bool Tryz.underlying4 true)

set_option maxRecDepth 100000 in
/-- THE LIFT: from the contract on the law's Go function to what the row's builder wants. -/
theorem lift {f : FuncId} {fn : Func} {s : ChangeSpec} {os : Os} {H : Type} {enc : TypeId × Value → H} {handsOn again : Bool} (started : os.Started) (k : Nat)
    (noInit : Tryz.checked.prog.inits.idxOf? f = none) (hfn : Tryz.prog.funcs[f]? = some fn) (hvars : s.vars = []) (hlen : fn.params.toList.length = k)
    (hspec : ∀ ds : List (DataW H), ds.length = k → s.fn H ds = { results := [.lit (.bool true)], args := ds })
    (ht : fn.params.toList.all (fun t => Tryz.prog.readableRec t && decide (t < Tryz.prog.types.size)) = true) (hr : fn.resultTypes = #[4])
    (args0 : Array Value)
    (hok : Input.okWideB Tryz.checked.prog ((World.doorLaid Tryz.prog 400 os).forCall (fun _ _ => 0) ⟨#[], args0, []⟩) f ⟨#[], args0, []⟩ = true)
    (hpre : s.preB enc Tryz.checked.prog fn [] false ((World.doorLaid Tryz.prog 400 os).forCall (fun _ _ => 0) ⟨#[], args0, []⟩).memory args0 8 = true)
    (hsz : s.sizedB enc Tryz.checked.prog fn false ((World.doorLaid Tryz.prog 400 os).forCall (fun _ _ => 0) ⟨#[], args0, []⟩).memory args0 8 = true)
    (contract : ∀ (W : World) (base : Nat) (args : Array Value) (ds : List (DataW H)) (ps : List MemPlace), Tab W →
      (∀ (j : Nat) t v, fn.params[j]? = some t → args[j]? = some v → Value.okWide Tryz.prog W .any base t v) →
      DataW.TrodAll enc Tryz.prog W 0 (fun _ => true) true fn.params.toList args.toList ds ps → (∀ p ∈ ps, p.block < W.heap.size) → 
      Calls Tryz.prog f args W fun e W' => e = .returned (.bool true) ∧ Below W.heap.size W W') :
    ReturnsInHanded {} Tryz.checked os f .any (fun w args => (s.pre enc Tryz.prog fn [] false w args ∧ laidMetH Tryz.prog laid2 w) ∧ sizedMet enc Tryz.prog fn (OpenSpec.ofChange s) false w args) (s.post enc Tryz.prog fn false true handsOn again) := by
  refine returnsInHanded_of_change_and (C := Tryz.checked) (X := fun w _ => laidMetH Tryz.prog laid2 w) (fun _ _ _ hh h => h.of_heap hh) own_none started noInit hfn
    (ChangeSpec.witness_shaped (enc := enc) (C := Tryz.checked) (os := os) (X := fun w _ => laidMetH Tryz.prog laid2 w) false (World.doorLaid Tryz.prog 400 os) args0 8 rfl (World.shaped_of_RefB (by kernel_rfl) (by kernel_rfl)) hok hpre hsz (door_met os _)) ?_
  intro W base args ds gs before hval hW hcnd _ hL _
  have hgs : gs = [] := by
    obtain ⟨p, q, _, hV, _⟩ := hW
    rw [hvars] at hV
    cases gs with
    | nil => rfl
    | cons _ _ => exact hV.elim
  subst hgs
  have hW' : DataW.Whole enc Tryz.prog fn.params.toList s.vars false W args.toList ds [] before := hW
  obtain ⟨p, q, hA, hV, hpq, hz, hn⟩ := hW'
  have hlt : ∀ x ∈ before, x.block < W.heap.size := fun x hx => hW.lt x hx
  have hspec' := hspec (ds ++ []) (by rw [List.append_nil, trodAll_length hA, hlen])
  refine (contract W base args ds p (tab_of_laid hL) hval hA (fun x hx => hlt x (by rw [hpq]; simp [hx]))).mono fun e W' ⟨he, hb⟩ => ?_
  subst he
  refine ⟨_, rfl, post_below hvars (by rw [hspec']; simp) (by rw [hspec']) laid_out ht hW (fun _ _ _ => ?_) hb (ok_one hr rfl (okWide_bool_mk Tryz.underlying4 _))⟩
  rw [hspec', hr]
  exact shut_true

/-- No type of the parameters wants a stand-in, asked of each by the kernel. -/
theorem no_stand_in {ts : List TypeId} (hall : (ts.all fun u => !Tryz.prog.wantsStandIn u) = true) (j : Nat) (t : TypeId) (ht : ts.toArray[j]? = some t) : Tryz.prog.wantsStandIn t = false := by
  have hm : t ∈ ts := by simpa using Array.mem_of_getElem? ht
  simpa using List.all_eq_true.1 hall t hm

end Go.Proofs.YtlnckjemfabckaaGreatDoor

/-
  strings.Fields on bytes below 128: the kit's worked walk (NmFields), turned to this program's numbers.
-/
namespace Go.Proofs.YtlnckjemfabckaaGreatDoor
open Go.RowKit

theorem infoStr : (Tryz.prog.info? 9).map (fun i => (i.zero, i.size, i.bytes)) = some (some (.string ByteArray.empty), 1, 16) := by kernel_rfl

theorem andNot00 : bits .and .i64 0 (bits .xor .i64 (-1) 0) = 0 := by decide
theorem andNot01 : bits .and .i64 0 (bits .xor .i64 (-1) 1) = 0 := by decide
theorem andNot10 : bits .and .i64 1 (bits .xor .i64 (-1) 0) = 1 := by decide
theorem andNot11 : bits .and .i64 1 (bits .xor .i64 (-1) 1) = 0 := by decide

set_option maxHeartbeats 16000000 in
set_option maxRecDepth 1000000 in
theorem fields_any (s : ByteArray) (w : World) (hs : s.size < 4294967281) (hascii : ∀ (j : Nat) b, s.data.toList[j]? = some b → b.toNat < 128)
    (hT : ∀ c : Nat, c < 256 → w.cell? ⟨0, c, none⟩ = some (.int .u8 (if Lib.isSp (UInt8.ofNat c) then 1 else 0))) :
    Calls Tryz.prog 105 #[.string s] w fun e w' =>
      e = .returned (.slice (some ⟨w.heap.size, 0, none⟩) (Lib.fields s.data.toList).length (Lib.fields s.data.toList).length) ∧ w' = w.alloc (.cells ((Lib.fields s.data.toList).map fun l => Value.string ⟨l.toArray⟩).toArray 9) := by
  have HA : Aside (∀ (j : Nat) b, s.data.toList[j]? = some b → b.toNat < 128) := hascii
  have HT : Aside (∀ c : Nat, c < 256 → w.cell? ⟨0, c, none⟩ = some (.int .u8 (if Lib.isSp (UInt8.ofNat c) then 1 else 0))) := hT
  have HT1 : Aside (∀ (o : Obj) (c : Nat), c < 256 → (w.alloc o).cell? ⟨0, c, none⟩ = some (.int .u8 (if Lib.isSp (UInt8.ofNat c) then 1 else 0))) := fun o c hc => by
    rw [World.cell?_alloc_old _ _ _ (Nat.ne_of_lt (World.block_lt_of_cell? _ _ (hT c hc)))]; exact hT c hc
  clear hascii hT
  obtain ⟨N, hN⟩ : ∃ N : Nat, (Lib.fields s.data.toList).length = N := ⟨_, rfl⟩
  rw [hN]
  have hNc : Lib.cntF true s.data.toList = N := by rw [← Lib.fields_length]; exact hN
  have hlen : s.data.toList.length = s.size := (Lib.size_eq s).symm
  go_enter Tryz.func105, Tryz.ntmps105
  go_wp2
  go_loopg [3, 4, 5, 6] s.size (fun g s3 s4 s5 s6 wx => w = wx ∧ ∃ (k nn sb : Nat) (ws : Bool), k ≤ s.size ∧ g = s.size - k ∧ s6 = .int .i64 k ∧ s3 = .int .i64 nn ∧ s4 = .int .i64 (if ws then 1 else 0) ∧ s5 = .int .u8 sb ∧ sb < 128 ∧ nn ≤ k ∧
    nn + Lib.cntF ws (s.data.toList.drop k) = N)
  case atStart => exact ⟨rfl, 0, 0, 0, true, Nat.zero_le _, rfl, rfl, rfl, rfl, rfl, by omega, Nat.le_refl _, by simpa using hNc⟩
  case round =>
    obtain ⟨rfl, k, nn, sb, ws, hk, rfl, rfl, rfl, rfl, rfl, hsb, hnk, hc⟩ := hrel
    by_cases hkn : k < s.size
    · have hkz : (k : Int) < (s.size : Int) := by omega
      obtain ⟨x, hx⟩ : ∃ x : UInt8, s[k] = x := ⟨_, rfl⟩
      have hxl : s.data.toList[k]? = some x := by rw [← hx]; exact Lib.data_getElem? s k hkn
      have hx128 : x.toNat < 128 := HA.out k x hxl
      have hxz : (x.toNat : Int) < 256 := by omega
      have hTx : w.cell? ⟨0, x.toNat, none⟩ = some (.int .u8 (if Lib.isSp x then 1 else 0)) := by have := HT.out x.toNat (by omega); simpa using this
      have hor : bits .or .u8 (sb : Int) (x.toNat : Int) = ((sb ||| x.toNat : Nat) : Int) := u8_or_nat _ _ (by omega) (by omega)
      have hor128 : sb ||| x.toNat < 128 := Nat.or_lt_two_pow (n := 7) hsb hx128
      rw [Lib.drop_at hxl, Lib.cntF_step] at hc
      have HC : Aside (nn + ((if ws && !Lib.isSp x then 1 else 0) + Lib.cntF (Lib.isSp x) (s.data.toList.drop (k + 1))) = N) := hc
      clear hc hxl
      have b00 := andNot00; have b01 := andNot01; have b10 := andNot10; have b11 := andNot11
      cases hsx : Lib.isSp x <;> cases ws <;> rw [hsx] at hTx <;> simp only [if_true, Bool.false_eq_true, if_false] at hTx ⊢ <;>
        (go_wp2
         go_roundg (s.size - (k + 1))
         case measure => omega
         case rel =>
           have hc := HC.out
           rw [hsx] at hc
           simp at hc
           first
             | exact ⟨rfl, k + 1, nn, sb ||| x.toNat, false, by omega, rfl, by first | rfl | simp, by first | rfl | (simp; unfold RowKit.wrap64; omega), rfl, by first | rfl | simp, hor128, by omega, by omega⟩
             | exact ⟨rfl, k + 1, nn + 1, sb ||| x.toNat, false, by omega, rfl, by first | rfl | simp, by first | rfl | (simp; unfold RowKit.wrap64; omega), rfl, by first | rfl | simp, hor128, by omega, by omega⟩
             | exact ⟨rfl, k + 1, nn, sb ||| x.toNat, true, by omega, rfl, by first | rfl | simp, by first | rfl | (simp; unfold RowKit.wrap64; omega), rfl, by first | rfl | simp, hor128, by omega, by omega⟩)
    · obtain rfl : k = s.size := by omega
      generalize (if ws = true then (1 : Int) else 0) = v4
      have hkz : ¬ ((s.size : Int) < (s.size : Int)) := by omega
      have hsbz : ¬ ((128 : Int) ≤ (sb : Int)) := by omega
      obtain rfl : N = nn := by rw [← hlen, List.drop_length] at hc; simpa [Lib.cntF] using hc.symm
      clear hc
      have hmk := run_make_row' (P := Tryz.prog) 87 9 (.string ByteArray.empty) 16 Tryz.underlying87 infoStr rfl .i64 .i64 N (by omega) (by omega)
      go_upto_block 2 with fail
      clear hmk
      rw [← Lib.cellsOf_nil]
      go_cut [12] from 42 to 55 (fun s12 wx => (w.alloc (.cells (Lib.cellsOf [] N) 9)) = wx ∧ ∃ i : Nat, i ≤ s.size ∧ s12 = .int .i64 i ∧ Lib.fieldsGo [] (s.data.toList.drop i) = Lib.fields s.data.toList ∧ ∀ y, s.data.toList[i]? = some y → Lib.isSp y = false)
      case first =>
        go_wp2_with fail
        go_loopg [12] s.size (fun g s12 wx => (w.alloc (.cells (Lib.cellsOf [] N) 9)) = wx ∧ ∃ i : Nat, i ≤ s.size ∧ g = s.size - i ∧ s12 = .int .i64 i ∧ Lib.fieldsGo [] (s.data.toList.drop i) = Lib.fields s.data.toList)
        case atStart => exact ⟨rfl, 0, Nat.zero_le _, rfl, rfl, rfl⟩
        case round =>
          obtain ⟨rfl, i, hi, rfl, rfl, hf⟩ := hrel
          have HF : Aside (Lib.fieldsGo [] (s.data.toList.drop i) = Lib.fields s.data.toList) := hf
          clear hf
          by_cases hin : i < s.size
          · have hiz : (i : Int) < (s.size : Int) := by omega
            obtain ⟨x, hx⟩ : ∃ x : UInt8, s[i] = x := ⟨_, rfl⟩
            have hxl : s.data.toList[i]? = some x := by rw [← hx]; exact Lib.data_getElem? s i hin
            have hx128 : x.toNat < 128 := HA.out i x hxl
            have hxz : (x.toNat : Int) < 256 := by omega
            have hTx : (w.alloc (.cells (Lib.cellsOf [] N) 9)).cell? ⟨0, x.toNat, none⟩ = some (.int .u8 (if Lib.isSp x then 1 else 0)) := by have := HT1.out (.cells (Lib.cellsOf [] N) 9) x.toNat (by omega); simpa using this
            have Hx : Aside (s.data.toList[i]? = some x) := hxl
            clear hxl
            cases hsx : Lib.isSp x <;> rw [hsx] at hTx <;> simp only [if_true, Bool.false_eq_true, if_false] at hTx
            · go_wp2
              go_meet
              exact ⟨rfl, i, hi, rfl, HF.out, fun y hy => by rw [Hx.out] at hy; cases hy; exact hsx⟩
            · go_wp2
              go_roundg (s.size - (i + 1))
              case measure => omega
              case rel => exact ⟨rfl, i + 1, by omega, rfl, by first | rfl | simp, by rw [← HF.out, Lib.drop_at Hx.out, Lib.fieldsGo_sp _ _ hsx]⟩
          · obtain rfl : i = s.size := by omega
            have hiz : ¬ ((s.size : Int) < (s.size : Int)) := by omega
            go_wp2
            go_meet
            exact ⟨rfl, s.size, Nat.le_refl _, rfl, HF.out, fun y hy => by rw [List.getElem?_eq_none (by omega)] at hy; cases hy⟩
      case rest =>
        obtain ⟨rfl, i0, hi0, rfl, hf0, hns0⟩ := hcut
        have H0 : Aside (Lib.fieldsGo [] (s.data.toList.drop i0) = Lib.fields s.data.toList ∧ ∀ y, s.data.toList[i0]? = some y → Lib.isSp y = false) := ⟨hf0, hns0⟩
        clear hf0 hns0
        go_wp2
        go_loopg [10, 11, 12] (s.size - i0) (fun g s10 s11 s12 wx => ∃ (done : List ByteArray) (fs i : Nat), s10 = .int .i64 done.length ∧ s11 = .int .i64 fs ∧ s12 = .int .i64 i ∧ fs ≤ i ∧ i ≤ s.size ∧ g = s.size - i ∧ wx = (w.alloc (.cells (Lib.cellsOf done N) 9)) ∧
          done.map (·.data.toList) ++ Lib.fieldsGo ((s.data.toList.drop fs).take (i - fs)) (s.data.toList.drop i) = Lib.fields s.data.toList ∧ (fs = i → ∀ y, s.data.toList[i]? = some y → Lib.isSp y = false))
        case atStart => exact ⟨[], i0, i0, rfl, rfl, rfl, Nat.le_refl _, hi0, rfl, rfl, by rw [Lib.piece_nil]; exact H0.out.1, fun _ => H0.out.2⟩
        case round =>
          obtain ⟨done, fs, i, rfl, rfl, rfl, hfi, hi, rfl, rfl, hinv, hside⟩ := hrel
          clear H0
          by_cases hin : i < s.size
          · have hiz : (i : Int) < (s.size : Int) := by omega
            obtain ⟨x, hx⟩ : ∃ x : UInt8, s[i] = x := ⟨_, rfl⟩
            have hxl : s.data.toList[i]? = some x := by rw [← hx]; exact Lib.data_getElem? s i hin
            have hx128 : x.toNat < 128 := HA.out i x hxl
            have hxz : (x.toNat : Int) < 256 := by omega
            have hTx : (w.alloc (.cells (Lib.cellsOf done N) 9)).cell? ⟨0, x.toNat, none⟩ = some (.int .u8 (if Lib.isSp x then 1 else 0)) := by have := HT1.out (.cells (Lib.cellsOf done N) 9) x.toNat (by omega); simpa using this
            have Hx : Aside (s.data.toList[i]? = some x) := hxl
            clear hxl
            cases hsx : Lib.isSp x <;> rw [hsx] at hTx <;> simp only [if_true, Bool.false_eq_true, if_false] at hTx
            · -- a byte of a field: 'i++; continue'
              have HI : Aside (done.map (·.data.toList) ++ Lib.fieldsGo ((s.data.toList.drop fs).take (i - fs)) (s.data.toList.drop i) = Lib.fields s.data.toList) := hinv
              clear hinv hside
              go_wp2
              go_roundg (s.size - (i + 1))
              case measure => omega
              case rel => exact ⟨done, fs, i + 1, rfl, rfl, by first | rfl | simp, by omega, by omega, rfl, rfl, by rw [Lib.piece_more hfi Hx.out, ← Lib.fieldsGo_more _ _ _ hsx, ← Lib.drop_at Hx.out]; exact HI.out, fun h => by omega⟩
            · -- white space: the field ends here: 'a[na] = s[fieldStart:i]; na++; i++'
              have hlt : fs < i := by
                refine Nat.lt_of_le_of_ne hfi fun h => ?_
                have := hside h x Hx.out
                rw [hsx] at this
                cases this
              rw [Lib.drop_at Hx.out, Lib.fieldsGo_end _ _ _ hsx (Lib.piece_ne hlt (by omega))] at hinv
              have hdN : done.length < N := by
                have := congrArg List.length hinv
                rw [hN] at this
                simp at this
                omega
              have hnext : (Lib.cellsOf done N)[done.length]? = some (.string ByteArray.empty) := Lib.cellsOf_next hdN
              have hdz : ((done.length : Nat) : Int) < (N : Int) := by omega
              have c1 : (fs : Int) ≤ (i : Int) := by omega
              have c2 : (i : Int) ≤ (s.size : Int) := by omega
              have HI : Aside ((done ++ [s.extract fs i]).map (·.data.toList) ++ Lib.fieldsGo [] (s.data.toList.drop (i + 1)) = Lib.fields s.data.toList) := by
                show _ = _
                rw [← hinv, List.map_append, List.map_cons, List.map_nil, Lib.extract_data]
                simp
              clear hinv hside
              go_wp2
              rw [Lib.cellsOf_set hdN]
              clear hnext hTx
              go_loopg [12] (s.size - (i + 1)) (fun g s12 wx => (w.alloc (.cells (Lib.cellsOf (done ++ [s.extract fs i]) N) 9)) = wx ∧ ∃ j : Nat, i + 1 ≤ j ∧ j ≤ s.size ∧ g = s.size - j ∧ s12 = .int .i64 j ∧ Lib.fieldsGo [] (s.data.toList.drop j) = Lib.fieldsGo [] (s.data.toList.drop (i + 1)))
              case atStart => exact ⟨rfl, i + 1, Nat.le_refl _, by omega, rfl, by first | rfl | simp, rfl⟩
              case round =>
                obtain ⟨rfl, j, hij, hj, rfl, rfl, hfj⟩ := hrel
                have HJ : Aside (Lib.fieldsGo [] (s.data.toList.drop j) = Lib.fieldsGo [] (s.data.toList.drop (i + 1))) := hfj
                clear hfj hx Hx hx128 hxz hsx
                by_cases hjn : j < s.size
                · have hjz : (j : Int) < (s.size : Int) := by omega
                  obtain ⟨x, hx⟩ : ∃ x : UInt8, s[j] = x := ⟨_, rfl⟩
                  have hxl : s.data.toList[j]? = some x := by rw [← hx]; exact Lib.data_getElem? s j hjn
                  have hx128 : x.toNat < 128 := HA.out j x hxl
                  have hxz : (x.toNat : Int) < 256 := by omega
                  have hTx : (w.alloc (.cells (Lib.cellsOf (done ++ [s.extract fs i]) N) 9)).cell? ⟨0, x.toNat, none⟩ = some (.int .u8 (if Lib.isSp x then 1 else 0)) := by have := HT1.out (.cells (Lib.cellsOf (done ++ [s.extract fs i]) N) 9) x.toNat (by omega); simpa using this
                  have Hx : Aside (s.data.toList[j]? = some x) := hxl
                  clear hxl
                  cases hsx : Lib.isSp x <;> rw [hsx] at hTx <;> simp only [if_true, Bool.false_eq_true, if_false] at hTx
                  · go_wp2
                    go_roundg (s.size - j)
                    case measure => omega
                    case rel => exact ⟨done ++ [s.extract fs i], j, j, by simp, rfl, rfl, Nat.le_refl _, hj, rfl, rfl, by rw [Lib.piece_nil, HJ.out]; exact HI.out, fun _ y hy => by rw [Hx.out] at hy; cases hy; exact hsx⟩
                  · go_wp2
                    go_roundg (s.size - (j + 1))
                    case measure => omega
                    case rel => exact ⟨rfl, j + 1, by omega, by omega, rfl, by first | rfl | simp, by rw [← HJ.out, Lib.drop_at Hx.out, Lib.fieldsGo_sp _ _ hsx]⟩
                · obtain rfl : j = s.size := by omega
                  have hjz : ¬ ((s.size : Int) < (s.size : Int)) := by omega
                  go_wp2
                  go_roundg (s.size - s.size)
                  case measure => omega
                  case rel => exact ⟨done ++ [s.extract fs i], s.size, s.size, by simp, rfl, rfl, Nat.le_refl _, Nat.le_refl _, rfl, rfl, by rw [Lib.piece_nil, HJ.out]; exact HI.out, fun _ y hy => by rw [List.getElem?_eq_none (by omega)] at hy; cases hy⟩
          · -- the string's end: 'if fieldStart < len(s) { a[na] = s[fieldStart:] }; return a'
            obtain rfl : i = s.size := by omega
            have hiz : ¬ ((s.size : Int) < (s.size : Int)) := by omega
            rw [← hlen, List.drop_length, hlen] at hinv
            clear hside
            by_cases hfl : fs < s.size
            · have hflz : (fs : Int) < (s.size : Int) := by omega
              have hne := Lib.piece_ne (l := s.data.toList) hfl (by omega)
              have e1 : Lib.fieldsGo ((s.data.toList.drop fs).take (s.size - fs)) [] = [(s.data.toList.drop fs).take (s.size - fs)] := by
                cases hc : (s.data.toList.drop fs).take (s.size - fs) with
                | nil => exact absurd hc hne
                | cons _ _ => rfl
              rw [e1] at hinv
              have hfin : (done ++ [s.extract fs s.size]).map (·.data.toList) = Lib.fields s.data.toList := by rw [← hinv, List.map_append, List.map_cons, List.map_nil, Lib.extract_data]
              have hdN : done.length + 1 = N := by
                have := congrArg List.length hfin
                rw [hN] at this
                simpa using this
              have hnext : (Lib.cellsOf done N)[done.length]? = some (.string ByteArray.empty) := Lib.cellsOf_next (by omega)
              have hdz : ((done.length : Nat) : Int) < (N : Int) := by omega
              have HFin : Aside ((done ++ [s.extract fs s.size]).map (·.data.toList) = Lib.fields s.data.toList) := hfin
              clear hinv hfin e1 hne
              go_wp2
              go_ret
              refine ⟨rfl, ?_⟩
              rw [Lib.cellsOf_set (by omega), ← Lib.pieces_eq HFin.out, ← Lib.cellsOf_full]
              congr 3
              simp; omega
            · obtain rfl : fs = s.size := by omega
              have hflz : ¬ ((s.size : Int) < (s.size : Int)) := by omega
              rw [Lib.piece_nil] at hinv
              have hfin : done.map (·.data.toList) = Lib.fields s.data.toList := by simpa [Lib.fieldsGo] using hinv
              have hdN : done.length = N := by
                have := congrArg List.length hfin
                rw [hN] at this
                simpa using this
              have HFin : Aside (done.map (·.data.toList) = Lib.fields s.data.toList) := hfin
              clear hinv hfin
              go_wp2
              go_ret
              refine ⟨rfl, ?_⟩
              rw [← Lib.pieces_eq HFin.out, ← Lib.cellsOf_full, hdN]

end Go.Proofs.YtlnckjemfabckaaGreatDoor

/-
  Regions that draw their order and hold calls which only make memory: one walk in the order of the text serves every order.
-/
namespace Go.Proofs.YtlnckjemfabckaaGreatDoor
open Go.RowKit

/-- The worlds that lie behind w: what w held below its heap's end is as it was. -/
def Bel (w : World) : Type := { w' : World // Below w.heap.size w w' }
def past (w : World) (x : Bel w) : World := x.1
instance (w : World) : Nonempty (Bel w) := ⟨⟨w, Below.refl _ _⟩⟩

theorem past_below (w : World) (x : Bel w) : Below w.heap.size w (past w x) := x.2
theorem past_cell {w : World} {x : Bel w} {b o : Nat} (h : b < w.heap.size) : (past w x).cell? ⟨b, o, none⟩ = w.cell? ⟨b, o, none⟩ := (past_below w x).cell (p := ⟨b, o, none⟩) h
theorem past_cell_add {w : World} {x : Bel w} {a : Addr} {n : Nat} (h : a.block < w.heap.size) : (past w x).cell? (a.add n) = w.cell? (a.add n) :=
  (past_below w x).cell (p := a.add n) (by unfold Addr.add; split <;> exact h)

section
variable {P : Program}
theorem calls_past {f : FuncId} {args : Array Value} {w : World} {x : Bel w} {v : Value}
    (h : Calls P f args (past w x) fun e w'' => e = .returned v ∧ Below (past w x).heap.size (past w x) w'') :
    Calls P f args (past w x) fun e w'' => e = .returned v ∧ ∃ y : Bel w, w'' = past w y :=
  h.mono fun _ w'' ⟨he, hb⟩ => ⟨he, ⟨w'', (past_below w x).trans (hb.mono (past_below w x).size)⟩, rfl⟩
theorem calls_past_same {f : FuncId} {args : Array Value} {w : World} {x : Bel w} {v : Value}
    (h : Calls P f args (past w x) fun e w'' => e = .returned v ∧ past w x = w'') :
    Calls P f args (past w x) fun e w'' => e = .returned v ∧ ∃ y : Bel w, w'' = past w y :=
  h.mono fun _ _ ⟨he, hb⟩ => ⟨he, x, hb.symm⟩

theorem wp_region_past {id : Nat} {Q : Exit → Act → World → Prop} {a : Act} {w : World} {l : List Oper} (hm : P.follows .mixedOrders = true) (hB : Region.lexB .any l.toArray = true)
    (h : wpQuiet P l.toArray (fun w' => ∃ x : Bel w, w' = past w x) (fun a' => ∀ w', (∃ x : Bel w, w' = past w x) → Q .normal a' w') l a) : (Code.region id l.toArray true).wp P Q a w :=
  wp_region_quiet (C := fun w' => ∃ x : Bel w, w' = past w x) hm hB ⟨⟨w.drew, (Below.refl _ _).drew⟩, rfl⟩ (by simpa using h)
end
end Go.Proofs.YtlnckjemfabckaaGreatDoor

/-
  dump: the names of kinds, numbers, marks.
-/
namespace Go.Proofs.YtlnckjemfabckaaGreatDoor
open Go.RowKit
attribute [local go_sem] past_cell past_cell_add

def strs (L : List ByteArray) : List Value := L.map Value.string
theorem strs_one (L : List ByteArray) : ∀ u ∈ strs L, u.oneCell' = true := by
  intro u hu
  unfold strs at hu
  obtain ⟨x, _, rfl⟩ := List.mem_map.1 hu
  rfl
theorem strs_app (L M : List ByteArray) : strs (L ++ M) = strs L ++ strs M := by simp [strs]
theorem strs_len (L : List ByteArray) : (strs L).length = L.length := by simp [strs]

set_option maxRecDepth 100000 in
set_option maxHeartbeats 1000000 in
theorem named_any (tab : ByteArray) (L : List ByteArray) (k : Int) (w : World) (hT : Tab w) (hk : I64 k) (hs : tab.size < 1000) (ha : ∀ (j : Nat) b, tab.data.toList[j]? = some b → b.toNat < 128)
    (hL : (Lib.fields tab.data.toList).map (fun l => (⟨l.toArray⟩ : ByteArray)) = L) (hl : L.length ≤ 100) :
    Calls Tryz.prog 60 #[.string tab, .int .i64 k] w fun e w' => e = .returned (.string (nmd L k)) ∧ Below w.heap.size w w' := by
  obtain ⟨k1, k2⟩ := hk
  have F := hide (fields_any tab w (by omega) ha hT.2)
  have e1 : ((Lib.fields tab.data.toList).map fun l => Value.string ⟨l.toArray⟩) = strs L := by
    rw [← hL]
    simp [strs]
  have e2 : (Lib.fields tab.data.toList).length = L.length := by rw [← hL]; simp
  rw [e1, e2] at F
  have bf := Blk.new w 9 (strs L).toArray
  have B1 := (Below.refl w.heap.size w).alloc (Nat.le_refl _) (.cells (strs L).toArray 9)
  have mc := fun j => bf.cell j
  clear ha hT hs hL e1 e2
  obtain ⟨n, hn⟩ : ∃ n, L.length = n := ⟨_, rfl⟩
  rw [hn] at F hl
  by_cases h1 : k < 1
  · have E := hide (nmd_no (L := L) (k := k) (.inl h1))
    generalize strs L = cs at *
    generalize nmd L k = r at *
    clear hn
    go_enter Tryz.func60, Tryz.ntmps60
    go_wp2_with fail
    refine F.out.mono ?_
    rintro e w1 ⟨rfl, rfl⟩
    go_wp2_with fail
    go_ret
    exact ⟨by rw [E.out]; rfl, B1⟩
  by_cases h2 : (n : Int) < k
  · have E := hide (nmd_no (L := L) (k := k) (.inr (by omega)))
    generalize strs L = cs at *
    generalize nmd L k = r at *
    clear hn
    go_enter Tryz.func60, Tryz.ntmps60
    go_wp2_with fail
    refine F.out.mono ?_
    rintro e w1 ⟨rfl, rfl⟩
    go_wp2_with fail
    go_ret
    exact ⟨by rw [E.out]; rfl, B1⟩
  · obtain ⟨j, rfl⟩ : ∃ j : Nat, k = (j : Int) + 1 := ⟨(k - 1).toNat, by omega⟩
    have hj : j < L.length := by omega
    have E := hide (nmd_yes (k := (j : Int) + 1) (j := j) rfl (List.getElem?_eq_getElem hj))
    have c := mc j
    replace c : (w.alloc (.cells (strs L).toArray 9)).cell? ⟨w.heap.size, j, none⟩ = some (.string L[j]) := by
      rw [c]
      simp [strs, hj]
    generalize L[j] = x at *
    generalize strs L = cs at *
    generalize nmd L ((j : Int) + 1) = r at *
    have hjn : j < n := by omega
    have hjn2 : (j : Int) < (n : Int) := by omega
    clear hn mc hj h1 h2 bf
    generalize w.alloc (.cells cs.toArray 9) = wa at *
    obtain ⟨g, hg⟩ : ∃ g, g = w.heap.size := ⟨_, rfl⟩
    rw [← hg] at F c
    clear hg
    have h1 : 1 ≤ (j : Int) + 1 := by omega
    have h2 : (j : Int) + 1 ≤ (n : Int) := by omega
    have e1 : wrap64 ((j : Int) + 1 - 1) = (j : Int) := by unfold wrap64; omega
    have e2 : (j : Int) + 1 - 1 = (j : Int) := by omega
    generalize (j : Int) + 1 = k at *
    go_enter Tryz.func60, Tryz.ntmps60
    go_wp2_with fail
    refine F.out.mono ?_
    rintro e w1 ⟨rfl, rfl⟩
    go_wp2_with fail
    go_ret
    exact ⟨by rw [E.out]; rfl, B1⟩

set_option maxRecDepth 100000 in
set_option maxHeartbeats 1000000 in
theorem rname_any (g : Nat) (c0 : Nat) (L : List ByteArray) (k : Int) (w : World) (hk : I64 k) (hb : Blk w g 9 (strs L).toArray) :
    Calls Tryz.prog 63 #[.slice (some ⟨g, 0, none⟩) L.length c0, .int .i64 k] w fun e w' => e = .returned (.string (nmd L k)) ∧ w = w' := by
  obtain ⟨k1, k2⟩ := hk
  have mc := fun j => hb.cell j
  obtain ⟨n, hn⟩ : ∃ n, L.length = n := ⟨_, rfl⟩
  rw [hn]
  by_cases h1 : k < 1
  · have E := hide (nmd_no (L := L) (k := k) (.inl h1))
    generalize strs L = cs at *
    generalize nmd L k = r at *
    clear hn
    go_enter Tryz.func63, Tryz.ntmps63
    go_wp2_with fail
    go_ret
    exact ⟨by rw [E.out]; rfl, rfl⟩
  by_cases h2 : (n : Int) < k
  · have E := hide (nmd_no (L := L) (k := k) (.inr (by omega)))
    generalize strs L = cs at *
    generalize nmd L k = r at *
    clear hn
    go_enter Tryz.func63, Tryz.ntmps63
    go_wp2_with fail
    go_ret
    exact ⟨by rw [E.out]; rfl, rfl⟩
  · obtain ⟨j, rfl⟩ : ∃ j : Nat, k = (j : Int) + 1 := ⟨(k - 1).toNat, by omega⟩
    have hj : j < L.length := by omega
    have E := hide (nmd_yes (k := (j : Int) + 1) (j := j) rfl (List.getElem?_eq_getElem hj))
    have c := mc j
    replace c : w.cell? ⟨g, j, none⟩ = some (.string L[j]) := by
      rw [c]
      simp [strs, hj]
    generalize L[j] = x at *
    generalize strs L = cs at *
    generalize nmd L ((j : Int) + 1) = r at *
    have hjn : j < n := by omega
    have hjn2 : (j : Int) < (n : Int) := by omega
    clear hn mc hj h1 h2
    have h1 : ¬ (j : Int) + 1 < 1 := by omega
    have h2 : ¬ (n : Int) < (j : Int) + 1 := by omega
    go_enter Tryz.func63, Tryz.ntmps63
    go_wp2_with fail
    go_ret
    exact ⟨by rw [E.out]; rfl, rfl⟩

set_option maxHeartbeats 400000 in
theorem number_any (n : Nat) (w : World) (hn : n < 18446744073709551616) : Calls Tryz.prog 53 #[.int .u64 n] w fun e w' => e = .returned (.string (numT n)) ∧ Below w.heap.size w w' := by
  have F := hide (rform_any 10 n w (by omega) hn)
  rw [show ((10 : Nat) : Int) = 10 from rfl, show strOfNums (form 10 n) = numT n from rfl] at F
  generalize numT n = s at *
  go_enter Tryz.func53, Tryz.ntmps53
  go_wp2_with fail
  refine F.out.mono ?_
  rintro e w1 ⟨rfl, hb1⟩
  go_wp2_with fail
  go_ret
  exact ⟨rfl, hb1⟩

theorem markS_ascii : ∀ (j : Nat) b, markS.data.toList[j]? = some b → b.toNat < 128 := by
  intro j b h
  have : ∀ b ∈ markS.data.toList, b.toNat < 128 := by decide
  exact this b (List.mem_of_getElem? h)
set_option maxRecDepth 100000 in
set_option maxHeartbeats 2000000 in
theorem mark_any (k : Int) (a b : Nat) (w : World) (hT : Tab w) (hk : I64 k) (h1 : a < 18446744073709551616) (h2 : b < 18446744073709551616) :
    Calls Tryz.prog 66 #[.agg #[.int .i64 k, .int .u64 a, .int .u64 b]] w fun e w' => e = .returned (.string (markT k a b)) ∧ Below w.heap.size w w' := by
  have B0 := (Below.refl w.heap.size w).alloc (Nat.le_refl _) (.cells #[.int .i64 k, .int .u64 a, .int .u64 b] 57)
  have bx := Blk.new w 57 #[.int .i64 k, .int .u64 a, .int .u64 b]
  have mc := fun j => bx.cell j
  have NM := hide (fun w2 (h : Below w.heap.size w w2) => named_any markS markL k w2 (hT.below h) hk (by decide) markS_ascii mark_fields (by decide))
  rw [show markS = ⟨(([98, 101, 103, 105, 110, 32, 99, 104, 101, 99, 107, 32, 109, 105, 115, 115, 32, 102, 105, 114, 109, 32, 97, 103, 97, 105, 110, 32, 114, 101, 115, 116, 97, 114, 116, 32, 97, 108, 108, 111] : List UInt8).append [99, 32, 114, 101, 116, 105, 114, 101, 32, 102, 114, 101, 101, 32, 97, 100, 118, 97, 110, 99, 101, 32, 101, 118, 105, 99, 116, 32, 101, 102, 102, 101, 99, 116, 32, 101, 109, 112, 116, 121]).toArray⟩ from rfl] at NM
  have T1 := hide (fun w2 => text_any a w2 h1)
  have T2 := hide (fun w2 => text_any b w2 h2)
  rw [show strOfNums (form 10 a) = numT a from rfl] at T1
  rw [show strOfNums (form 10 b) = numT b from rfl] at T2
  have E := hide (show markT k a b = if b = 0 then (if a = 0 then nmd markL k else nmd markL k ++ co1 ++ numT a) else nmd markL k ++ co1 ++ numT a ++ co1 ++ numT b from rfl)
  have s1 := nmd_size (n := 10) (by omega) markL_size k
  have s2 := numT_size a
  have s3 := numT_size b
  generalize markT k a b = R at *
  generalize nmd markL k = nm at *
  generalize numT a = ta at *
  generalize numT b = tb at *
  clear hT hk
  by_cases hb : b = 0
  · by_cases ha : a = 0
    · subst hb ha
      replace E := hide (show R = nm by rw [E.out, if_pos rfl, if_pos rfl])
      go_enter Tryz.func66, Tryz.ntmps66
      go_wp2_with fail
      refine (NM.out _ B0).mono ?_
      rintro e w1 ⟨rfl, hb1⟩
      replace B0 := B0.trans (hb1.mono B0.size)
      replace bx := bx.below hb1 bx.lt
      clear mc hb1
      have mc := fun j => bx.cell j
      go_wp2_with fail
      go_ret
      exact ⟨by rw [E.out]; rfl, B0⟩
    · subst hb
      replace E := hide (show R = nm ++ (co1 ++ ta) by rw [E.out, if_pos rfl, if_neg ha]; simp only [ba_assoc])
      have qa : ((a : Int) == 0) = false := by simp; omega
      go_enter Tryz.func66, Tryz.ntmps66
      go_wp2_with fail
      refine (NM.out _ B0).mono ?_
      rintro e w1 ⟨rfl, hb1⟩
      replace B0 := B0.trans (hb1.mono B0.size)
      replace bx := bx.below hb1 bx.lt
      clear mc hb1
      have mc := fun j => bx.cell j
      go_wp2_with fail
      refine (T1.out _).mono ?_
      rintro e w2 ⟨rfl, hb1⟩
      replace B0 := B0.trans (hb1.mono B0.size)
      replace bx := bx.below hb1 bx.lt
      clear mc hb1
      have mc := fun j => bx.cell j
      go_wp2_with fail
      go_ret
      exact ⟨by rw [E.out]; rfl, B0⟩
  · replace E := hide (show R = nm ++ (co1 ++ ta) ++ (co1 ++ tb) by rw [E.out, if_neg hb]; simp only [ba_assoc])
    have qb : ((b : Int) == 0) = false := by simp; omega
    have orr : ((!((a : Int) == 0)) || true) = true := by simp
    by_cases ha : a = 0
    · subst ha
      go_enter Tryz.func66, Tryz.ntmps66
      go_wp2_with fail
      refine (NM.out _ B0).mono ?_
      rintro e w1 ⟨rfl, hb1⟩
      replace B0 := B0.trans (hb1.mono B0.size)
      replace bx := bx.below hb1 bx.lt
      clear mc hb1
      have mc := fun j => bx.cell j
      go_wp2_with fail
      refine (T1.out _).mono ?_
      rintro e w2 ⟨rfl, hb1⟩
      replace B0 := B0.trans (hb1.mono B0.size)
      replace bx := bx.below hb1 bx.lt
      clear mc hb1
      have mc := fun j => bx.cell j
      go_wp2_with fail
      refine (T2.out _).mono ?_
      rintro e w2 ⟨rfl, hb1⟩
      replace B0 := B0.trans (hb1.mono B0.size)
      clear mc hb1
      go_wp2_with fail
      go_ret
      exact ⟨by rw [E.out]; rfl, B0⟩
    · have qa : ((a : Int) == 0) = false := by simp; omega
      go_enter Tryz.func66, Tryz.ntmps66
      go_wp2_with fail
      refine (NM.out _ B0).mono ?_
      rintro e w1 ⟨rfl, hb1⟩
      replace B0 := B0.trans (hb1.mono B0.size)
      replace bx := bx.below hb1 bx.lt
      clear mc hb1
      have mc := fun j => bx.cell j
      go_wp2_with fail
      refine (T1.out _).mono ?_
      rintro e w2 ⟨rfl, hb1⟩
      replace B0 := B0.trans (hb1.mono B0.size)
      replace bx := bx.below hb1 bx.lt
      clear mc hb1
      have mc := fun j => bx.cell j
      go_wp2_with fail
      refine (T2.out _).mono ?_
      rintro e w2 ⟨rfl, hb1⟩
      replace B0 := B0.trans (hb1.mono B0.size)
      clear mc hb1
      go_wp2_with fail
      go_ret
      exact ⟨by rw [E.out]; rfl, B0⟩
end Go.Proofs.YtlnckjemfabckaaGreatDoor

/-
  strings.Join, and the Builder's WriteString and String, at this dump: laid by the kit's tools.
-/
namespace Go.Proofs
open Go.Shelf
def Tryz.lays156_ren : Go.Shelf.Ren := ⟨fun | 156 => 89 | 165 => 111 | 166 => 97 | 169 => 98 | 240 => 112 | 241 => 122 | 276 => 123 | 277 => 126 | n => n, fun | 31 => 87 | 9 => 9 | 3 => 3 | 4 => 4 | 0 => 0 | 20 => 20 | 72 => 120 | 76 => 123 | 70 => 117 | 37 => 118 | 75 => 122 | 127 => 140 | 164 => 147 | 5 => 5 | 80 => 125 | n => n, fun | n => n⟩
theorem Tryz.lays156 : Go.Proofs.Lays.n156 Tryz.prog Tryz.lays156_ren := {
  mixed := by kernel_rfl
  f156 := Tryz.func89.trans (congrArg some (by kernel_rfl))
  f165 := Tryz.func111.trans (congrArg some (by kernel_rfl))
  f166 := Tryz.func97.trans (congrArg some (by kernel_rfl))
  f169 := Tryz.func98.trans (congrArg some (by kernel_rfl))
  f240 := Tryz.func112.trans (congrArg some (by kernel_rfl))
  f241 := Tryz.func122.trans (congrArg some (by kernel_rfl))
  f276 := Tryz.func123.trans (congrArg some (by kernel_rfl))
  f277 := Tryz.func126.trans (congrArg some (by kernel_rfl))
  t0 := Tryz.underlying0
  a0 := Tryz.isAgg0
  z0 := Tryz.sizeOf0
  v0 := Tryz.zeroValue0
  t3 := Tryz.underlying3
  a3 := Tryz.isAgg3
  z3 := Tryz.sizeOf3
  v3 := Tryz.zeroValue3
  t4 := Tryz.underlying4
  a4 := Tryz.isAgg4
  z4 := Tryz.sizeOf4
  v4 := Tryz.zeroValue4
  t9 := Tryz.underlying9
  a9 := Tryz.isAgg9
  z9 := Tryz.sizeOf9
  v9 := Tryz.zeroValue9
  t20 := Tryz.underlying20
  a20 := Tryz.isAgg20
  z20 := Tryz.sizeOf20
  v20 := Tryz.zeroValue20
  t31 := Tryz.underlying87
  a31 := Tryz.isAgg87
  z31 := Tryz.sizeOf87
  v31 := Tryz.zeroValue87
  t37 := Tryz.underlying118
  a37 := Tryz.isAgg118
  z37 := Tryz.sizeOf118
  v37 := Tryz.zeroValue118
  t70 := Tryz.underlying117
  a70 := Tryz.isAgg117
  z70 := Tryz.sizeOf117
  v70 := Tryz.zeroValue117
  t72 := Tryz.underlying120
  a72 := Tryz.isAgg120
  z72 := Tryz.sizeOf120
  v72 := Tryz.zeroValue120
  t75 := Tryz.underlying122
  a75 := Tryz.isAgg122
  z75 := Tryz.sizeOf122
  v75 := Tryz.zeroValue122
  t76 := Tryz.underlying123
  a76 := Tryz.isAgg123
  z76 := Tryz.sizeOf123
  v76 := Tryz.zeroValue123
  t127 := Tryz.underlying140
  a127 := Tryz.isAgg140
  z127 := Tryz.sizeOf140
  v127 := Tryz.zeroValue140
  t164 := Tryz.underlying147
  a164 := Tryz.isAgg147
  z164 := Tryz.sizeOf147
  v164 := Tryz.zeroValue147 }
theorem Tryz.Builder_Extra_156 : Builder.Extra Tryz.prog Tryz.lays156_ren := {
  sizeBuilder := by kernel_rfl
  liesBuilder := by kernel_rfl
  t5 := Tryz.underlying5
  a5 := Tryz.isAgg5
  z5 := Tryz.sizeOf5
  v5 := Tryz.zeroValue5
  infoByte := by kernel_rfl
  cellsByte := by kernel_rfl
  sizeByte := by kernel_rfl
  neB5 := by decide }
open Go.RowKit in
/-- No element: the empty string; the world is as it was. (Whatever the slice's address and capacity: a nil slice too.) (LAID: no walk: one application.) -/
theorem Tryz.strings_Join_none (a : Option Addr) (c : Nat) (sep : ByteArray) (w : World) :
    Calls Tryz.prog 89 #[.slice a 0 c, .string sep] w fun e w' => e = .returned (.string ⟨#[]⟩) ∧ w' = w := Any.strings_Join_none Tryz.lays156 Tryz.Builder_Extra_156 a c sep w
open Go.RowKit in
/-- strings.Join: "Join concatenates the elements of its first argument to create a single string. The separator string sep is placed between elements in the resulting string.": HOWEVER MANY ELEMENTS. Below the heap's end the world is as it was. (LAID: no walk: one application.) -/
theorem Tryz.strings_Join (bk o c : Nat) (xs : List ByteArray) (sep : ByteArray) (w : World) (hcells : ∀ (j : Nat) x, xs[j]? = some x → w.cell? ⟨bk, o + j, none⟩ = some (.string x)) (hbk : bk < w.heap.size) (hN : xs.length ≤ 140737488355328) (hcap : xs.length ≤ c) (hlen : (Lib.join (xs.map (·.data.toList)) sep.data.toList).length ≤ 140737488355328) :
    Calls Tryz.prog 89 #[.slice (some ⟨bk, o, none⟩) xs.length c, .string sep] w fun e w' => e = .returned (.string ⟨(Lib.join (xs.map (·.data.toList)) sep.data.toList).toArray⟩) ∧ Below w.heap.size w w' := Any.strings_Join Tryz.lays156 Tryz.Builder_Extra_156 bk o c xs sep w hcells hbk hN hcap hlen
end Go.Proofs
namespace Go.Proofs.YtlnckjemfabckaaGreatDoor
open Go.Shelf Go.RowKit

theorem join_any (bk o c : Nat) (xs : List ByteArray) (w : World) (hcells : ∀ (j : Nat) x, xs[j]? = some x → w.cell? ⟨bk, o + j, none⟩ = some (.string x)) (hbk : bk < w.heap.size) (hN : xs.length ≤ 140737488355328) (hcap : xs.length ≤ c) (hlen : (Lib.join (xs.map (·.data.toList)) [32]).length ≤ 140737488355328) :
    Calls Tryz.prog 89 #[.slice (some ⟨bk, o, none⟩) xs.length c, .string ⟨#[32]⟩] w fun e w' => e = .returned (.string ⟨(Lib.join (xs.map (·.data.toList)) [32]).toArray⟩) ∧ Below w.heap.size w w' :=
  Tryz.strings_Join bk o c xs ⟨#[32]⟩ w hcells hbk hN hcap hlen
theorem bwrite_any (B b : Nat) (bs : List Value) (s : ByteArray) (w : World) (h : Lib.IsBuilderF 120 5 B b bs w) (hlen : bs.length + s.size ≤ 140737488355328) (hBw : B ≤ w.heap.size) :
    Calls Tryz.prog 97 #[.pointer (some ⟨b, 0, none⟩), .string s] w fun e w' => e = .returned (.tuple #[.int .i64 s.size, .nilIface]) ∧ (Lib.BuilderAtF 120 5 B b (.pointer (some ⟨b, 0, none⟩)) (bs ++ Lib.strCells s) w' ∧ Below B w w' ∧ Lib.OthersKept 5 (some b) w w') :=
  Any.Builder_WriteString_k { Tryz.lays156 with } Tryz.Builder_Extra_156 B b bs s w h hlen hBw
theorem bstring_any (B b : Nat) (l : List UInt8) (w : World) (h : Lib.IsBuilderF 120 5 B b (Lib.byteCells l) w) (hBw : B ≤ w.heap.size) :
    Calls Tryz.prog 98 #[.pointer (some ⟨b, 0, none⟩)] w fun e w' => e = .returned (.string ⟨l.toArray⟩) ∧ Below B w w' :=
  (Any.Builder_String_any_k { Tryz.lays156 with } Tryz.Builder_Extra_156 B b l w h hBw).mono fun _ _ h => ⟨h.1, h.2.2.1⟩
end Go.Proofs.YtlnckjemfabckaaGreatDoor

/-
  Regions that draw their order, whose last stores turn the very cells that the region loads: what holds of the world is asked only as long as none of those stores has come up.
-/
namespace Go.Proofs.YtlnckjemfabckaaGreatDoor

section
variable {P : Program} {ops : Array Oper} {Q : Exit → Act → World → Prop} {md : Region.Mode} {S : World → Prop} {zs : List Nat}

/-- One of the last stores has come up. -/
def overZ (zs : List Nat) (l : Array Bool) : Bool := zs.any fun z => l.getD z true

/-- Whatever order is picked from here on, and S holds behind each operation that is carried out, until one of zs has come up. -/
def wpAnyZ (P : Program) (md : Region.Mode) (ops : Array Oper) (Q : Exit → Act → World → Prop) (zs : List Nat) (S : World → Prop) : Nat → Array Bool → Act → World → Prop
  | 0, listed, a, w => Region.ready md ops listed = [] ∧ Q .normal a w
  | fuel + 1, listed, a, w =>
    (Region.ready md ops listed = [] → Q .normal a w) ∧
    ∀ i ∈ Region.ready md ops listed, wpOp P ops Q i (fun a' w' => (overZ zs (listed.setIfInBounds i true) = false → S w') ∧ wpAnyZ P md ops Q zs S fuel (listed.setIfInBounds i true) a' w') a w

theorem wpAny_of_heldZ : ∀ (fuel : Nat) (listed : Array Bool) (a : Act) (w : World), wpAnyZ P md ops Q zs S fuel listed a w → wpAny P md ops Q fuel listed a w
  | 0, _, _, _, h => h
  | fuel + 1, _, _, _, h => ⟨h.1, fun i hi => wpOp_mono (fun a' w' h' => wpAny_of_heldZ fuel _ a' w' h'.2) (h.2 i hi)⟩

/-- Each of B waits, one for the other, for i. -/
def Waits (md : Region.Mode) (ops : Array Oper) (i : Nat) (B : List Nat) : Prop := ∀ k ∈ B, k ≠ i → ∀ o, ops[k]? = some o → ∃ e ∈ o.after, Region.binds md e = true ∧ (e.on = i ∨ e.on ∈ B)
def waitsB (md : Region.Mode) (ops : Array Oper) (listed : Array Bool) (zs : List Nat) (i : Nat) (B : List Nat) : Bool :=
  (B.all fun k => !(k == i) && !listed.getD k true && (match ops[k]? with | some o => o.after.any fun e => Region.binds md e && (e.on == i || B.contains e.on) | none => true)) && (zs.all fun z => B.contains z) && !listed.getD i true
theorem waits_not_ready {i j : Nat} {B : List Nat} {listed : Array Bool} (hW : Waits md ops i B) (hi : listed.getD i false = false) (hB : ∀ k ∈ B, listed.getD k false = false) (hj : j ∈ Region.ready md ops listed) (hji : j ≠ i) : j ∉ B := by
  intro hjB
  obtain ⟨_, o, ho, hall⟩ := mem_ready.1 hj
  obtain ⟨e, he, hb, hon⟩ := hW j hjB hji o ho
  have := hall e he hb
  rcases hon with h | h
  · rw [h, hi] at this
    cases this
  · rw [hB _ h] at this
    cases this
theorem getD_ff {l : Array Bool} {k : Nat} (h : l.getD k true = false) : l.getD k false = false := by
  rcases Nat.lt_or_ge k l.size with h' | h'
  · simp [h'] at h ⊢
    exact h
  · simp [Array.getElem?_eq_none h'] at h

theorem wpAnyZ_first {i : Nat} {oi : Oper} {v : Value} {B : List Nat} (hi : ops[i]? = some oi) (hsel : ∀ (j : Nat) (o : Oper) cs b, ops[j]? = some o → o.op ≠ .select cs b)
    (hQ : ∀ c a w, Q (.panic c) (a.put oi.dst v) w → Q (.panic c) a w) (hW : Waits md ops i B) (hiB : i ∉ B) (hz : ∀ z ∈ zs, z ∈ B) :
    ∀ (fuel : Nat) (listed : Array Bool) (a : Act) (w : World),
      (∀ j oj, ops[j]? = some oj → j ≠ i → listed.getD j true = false → (∀ e ∈ oj.after, Region.binds md e = true → e.on ≠ i) → oi.apart ops oj = true) →
      (∀ k ∈ B, listed.getD k true = false) →
      i ∈ Region.ready md ops listed → YieldsIf P ops S oi v a → S w →
      wpAnyZ P md ops Q zs S fuel (listed.setIfInBounds i true) (a.put oi.dst v) w → wpAnyZ P md ops Q zs S (fuel + 1) listed a w := by
  intro fuel
  induction fuel with
  | zero =>
    intro listed a w _ _ hr hy hS H
    refine ⟨fun h => (by rw [h] at hr; cases hr), fun j hj => ?_⟩
    by_cases hji : j = i
    · subst hji; exact hy.wpOp hi hS ⟨fun _ => hS, H⟩
    · have := ready_mono hj hji
      rw [H.1] at this
      cases this
  | succ fuel ih =>
    intro listed a w hfree hBl hr hy hS H
    refine ⟨fun h => (by rw [h] at hr; cases hr), fun j hj => ?_⟩
    by_cases hji : j = i
    · subst hji; exact hy.wpOp hi hS ⟨fun _ => hS, H⟩
    · have h1 := H.2 j (ready_mono hj hji)
      obtain ⟨hjun, oj, hoj, hall⟩ := mem_ready.1 hj
      have hnot : ∀ e ∈ oj.after, Region.binds md e = true → e.on ≠ i := fun e he hb heq => by
        have h1 := hall e he hb
        have h0 := (mem_ready.1 hr).1
        rw [heq] at h1
        rcases Nat.lt_or_ge i listed.size with h' | h'
        · simp [h'] at h0 h1; rw [h0] at h1; cases h1
        · simp [Array.getElem?_eq_none h'] at h1
      have h2 := wpOp_putIf hoj (hfree j oj hoj hji hjun hnot) (fun cs b => hsel i oi cs b hi) (fun cs b => hsel j oj cs b hoj) hQ hy h1
      have hfree' : ∀ k ok, ops[k]? = some ok → k ≠ i → (listed.setIfInBounds j true).getD k true = false →
          (∀ e ∈ ok.after, Region.binds md e = true → e.on ≠ i) → oi.apart ops ok = true := fun k ok hk hki hun hno => by
        refine hfree k ok hk hki ?_ hno
        by_cases hjk : j = k
        · subst hjk; exact hjun
        · rw [getD_set_ne true hjk] at hun; exact hun
      have hjB : j ∉ B := waits_not_ready hW (getD_ff (mem_ready.1 hr).1) (fun k hk => getD_ff (hBl k hk)) hj hji
      have hBl' : ∀ k ∈ B, (listed.setIfInBounds j true).getD k true = false := fun k hk => by
        rw [getD_set_ne true (fun e => hjB (by rw [e]; exact hk))]
        exact hBl k hk
      have hov : overZ zs ((listed.setIfInBounds i true).setIfInBounds j true) = false := by
        unfold overZ
        rw [List.any_eq_false]
        intro z hzz
        have hzB := hz z hzz
        rw [getD_set_ne true (fun e => hjB (by rw [e]; exact hzB)), getD_set_ne true (fun e => hiB (by rw [e]; exact hzB)), hBl z hzB]
        simp
      refine wpOp_mono (fun a' w' h3 => ⟨fun _ => h3.2.1 hov, ih (listed.setIfInBounds j true) a' w' hfree' hBl' (ready_mono hr (Ne.symm hji)) h3.1 (h3.2.1 hov) ?_⟩) h2
      rw [Array.setIfInBounds_comm _ _ hji]
      exact h3.2.2

/-- Take number i first: B: those that wait for it, the last stores among them. -/
theorem wpAnyZ_take {i : Nat} {oi : Oper} {v : Value} {fuel : Nat} {listed : Array Bool} {a : Act} {w : World} (B : List Nat) (hi : ops[i]? = some oi)
    (hs : Region.noSelect ops = true) (hf : Region.free md ops listed i = true) (hr : (Region.ready md ops listed).contains i = true) (hB : waitsB md ops listed zs i B = true)
    (hQ : ∀ c a w, Q (.panic c) (a.put oi.dst v) w → Q (.panic c) a w) (hS : S w) (hw : Region.wanted oi (yielded ops a.tmps) = true) (hy : ∀ w, S w → (execOp a.eval oi).run P w = .ok (.value v) w)
    (h : wpAnyZ P md ops Q zs S fuel (listed.setIfInBounds i true) (a.put oi.dst v) w) : wpAnyZ P md ops Q zs S (fuel + 1) listed a w := by
  simp only [waitsB, Bool.and_eq_true, List.all_eq_true, Bool.not_eq_true', beq_eq_false_iff_ne, List.contains_iff_mem] at hB
  obtain ⟨⟨h1, h2⟩, h3⟩ := hB
  refine wpAnyZ_first hi (Region.noSelect_spec hs) hQ (B := B) (fun k hk _ o ho => ?_) (fun hiB => (h1 i hiB).1.1 rfl) h2 fuel listed a w (Region.free_spec hi hf) (fun k hk => (h1 k hk).1.2) (by simpa using hr) (.inl ⟨hw, hy⟩) hS h
  have h4 := (h1 k hk).2
  rw [ho] at h4
  simp only [Array.any_eq_true'] at h4
  obtain ⟨e, he, hb⟩ := h4
  simp only [Bool.and_eq_true, Bool.or_eq_true, beq_iff_eq, List.contains_iff_mem] at hb
  exact ⟨e, he, hb.1, hb.2⟩

def AllReadyZ (P : Program) (md : Region.Mode) (ops : Array Oper) (Q : Exit → Act → World → Prop) (zs : List Nat) (S : World → Prop) (fuel : Nat) (listed : Array Bool) (a : Act) (w : World) (rs : List Nat) : Prop :=
  ∀ i ∈ rs, wpOp P ops Q i (fun a' w' => (overZ zs (listed.setIfInBounds i true) = false → S w') ∧ wpAnyZ P md ops Q zs S fuel (listed.setIfInBounds i true) a' w') a w
theorem AllReadyZ.nil {fuel : Nat} {listed : Array Bool} {a : Act} {w : World} : AllReadyZ P md ops Q zs S fuel listed a w [] := fun _ h => by cases h
/-- An operation that is none of the last stores: S is shown anew, and handed on. -/
theorem AllReadyZ.cons {fuel : Nat} {listed : Array Bool} {a : Act} {w : World} {i : Nat} {o : Oper} {rs : List Nat} (ho : ops[i]? = some o)
    (h : ∀ K' : Act → World → Prop, Shut (∀ a w, S w → (S w → wpAnyZ P md ops Q zs S fuel (listed.setIfInBounds i true) a w) → K' a w) → if Region.wanted o (yielded ops a.tmps) = true then Oper.wp P o a w K' Q else K' (a.put o.dst undef) w)
    (hs : AllReadyZ P md ops Q zs S fuel listed a w rs) : AllReadyZ P md ops Q zs S fuel listed a w (i :: rs) := fun j hj => by
  rcases List.mem_cons.1 hj with rfl | hj
  · exact wpOp_step ho (fun K' hK => h K' (fun a w hS hW => hK a w ⟨fun _ => hS, hW hS⟩))
  · exact hs j hj
/-- One of the last stores: nothing is to be shown. -/
theorem AllReadyZ.last {fuel : Nat} {listed : Array Bool} {a : Act} {w : World} {i : Nat} {o : Oper} {rs : List Nat} (ho : ops[i]? = some o) (hz : overZ zs (listed.setIfInBounds i true) = true)
    (h : ∀ K' : Act → World → Prop, Shut (∀ a w, wpAnyZ P md ops Q zs S fuel (listed.setIfInBounds i true) a w → K' a w) → if Region.wanted o (yielded ops a.tmps) = true then Oper.wp P o a w K' Q else K' (a.put o.dst undef) w)
    (hs : AllReadyZ P md ops Q zs S fuel listed a w rs) : AllReadyZ P md ops Q zs S fuel listed a w (i :: rs) := fun j hj => by
  rcases List.mem_cons.1 hj with rfl | hj
  · exact wpOp_step ho (fun K' hK => h K' (fun a w hW => hK a w ⟨fun h0 => (by rw [hz] at h0; cases h0), hW⟩))
  · exact hs j hj
theorem wpAnyZ_ready {rs : List Nat} {fuel : Nat} {listed : Array Bool} {a : Act} {w : World} (hr : Region.ready md ops listed = rs) (hne : rs ≠ [])
    (h : AllReadyZ P md ops Q zs S fuel listed a w rs) : wpAnyZ P md ops Q zs S (fuel + 1) listed a w := ⟨fun h0 => absurd (hr ▸ h0) hne, hr ▸ h⟩
theorem wpAnyZ_done {listed : Array Bool} {a : Act} {w : World} (hr : Region.ready md ops listed = []) (h : Q .normal a w) : ∀ fuel, wpAnyZ P md ops Q zs S fuel listed a w
  | 0 => ⟨hr, h⟩
  | _ + 1 => ⟨fun _ => h, by rw [hr]; simp⟩
theorem opAt {l : List Oper} {i : Nat} {o : Oper} (h : l[i]? = some o) : l.toArray[i]? = some o := by simpa using h
/-- The beginning. -/
theorem wp_region_heldZ {id : Nat} {a : Act} {w : World} (zs : List Nat) (S : World → Prop) (hm : P.follows .mixedOrders = true) (hS : S w.drew)
    (h : S w.drew → wpAnyZ P .any ops Q zs S ops.size (Array.replicate ops.size false) a w.drew) : (Code.region id ops true).wp P Q a w :=
  wp_region_any hm (wpAny_of_heldZ _ _ _ _ (h hS))
end
end Go.Proofs.YtlnckjemfabckaaGreatDoor

/-
  The same, with the waiting operations reckoned.
-/
namespace Go.Proofs.YtlnckjemfabckaaGreatDoor

section
variable {P : Program} {ops : Array Oper} {Q : Exit → Act → World → Prop} {md : Region.Mode} {S : World → Prop} {zs : List Nat}
/-- Those that wait for i. -/
def blockedZ (md : Region.Mode) (ops : Array Oper) (listed : Array Bool) (i : Nat) : List Nat :=
  (List.range ops.size).foldl (fun B k => if !(k == i) && !listed.getD k true && (match ops[k]? with | some o => o.after.any fun e => Region.binds md e && (e.on == i || B.contains e.on) | none => false) then B ++ [k] else B) []
theorem wpAnyZ_takeA {i : Nat} {oi : Oper} {v : Value} {fuel : Nat} {listed : Array Bool} {a : Act} {w : World} (hi : ops[i]? = some oi)
    (hs : Region.noSelect ops = true) (hf : Region.free md ops listed i = true) (hr : (Region.ready md ops listed).contains i = true) (hB : waitsB md ops listed zs i (blockedZ md ops listed i) = true)
    (hQ : ∀ c a w, Q (.panic c) (a.put oi.dst v) w → Q (.panic c) a w) (hS : S w) (hw : Region.wanted oi (yielded ops a.tmps) = true) (hy : ∀ w, S w → (execOp a.eval oi).run P w = .ok (.value v) w)
    (h : wpAnyZ P md ops Q zs S fuel (listed.setIfInBounds i true) (a.put oi.dst v) w) : wpAnyZ P md ops Q zs S (fuel + 1) listed a w :=
  wpAnyZ_take (blockedZ md ops listed i) hi hs hf hr hB hQ hS hw hy h
/-- A guarded operation whose guard says no. -/
theorem wpAnyZ_skipA {i : Nat} {oi : Oper} {fuel : Nat} {listed : Array Bool} {a : Act} {w : World} (B : List Nat) (hB : B = blockedZ md ops listed i) (hi : ops[i]? = some oi)
    (hs : Region.noSelect ops = true) (hf : Region.free md ops listed i = true) (hr : (Region.ready md ops listed).contains i = true) (hW : waitsB md ops listed zs i B = true)
    (hQ : ∀ c a w, Q (.panic c) (a.put oi.dst undef) w → Q (.panic c) a w) (hS : S w) (hw : Region.wanted oi (yielded ops a.tmps) = false)
    (h : wpAnyZ P md ops Q zs S fuel (listed.setIfInBounds i true) (a.put oi.dst undef) w) : wpAnyZ P md ops Q zs S (fuel + 1) listed a w := by
  subst hB
  simp only [waitsB, Bool.and_eq_true, List.all_eq_true, Bool.not_eq_true', beq_eq_false_iff_ne, List.contains_iff_mem] at hW
  obtain ⟨⟨h1, h2⟩, h3⟩ := hW
  refine wpAnyZ_first hi (Region.noSelect_spec hs) hQ (B := blockedZ md ops listed i) (fun k hk _ o ho => ?_) (fun hiB => (h1 i hiB).1.1 rfl) h2 fuel listed a w (Region.free_spec hi hf) (fun k hk => (h1 k hk).1.2) (by simpa using hr) (.inr ⟨hw, rfl⟩) hS h
  have h4 := (h1 k hk).2
  rw [ho] at h4
  simp only [Array.any_eq_true'] at h4
  obtain ⟨e, he, hb⟩ := h4
  simp only [Bool.and_eq_true, Bool.or_eq_true, beq_iff_eq, List.contains_iff_mem] at hb
  exact ⟨e, he, hb.1, hb.2⟩
end
end Go.Proofs.YtlnckjemfabckaaGreatDoor

/-
  Arguments opened: a slice, of whatever element type, reads as a list of rows of cells; words, pairs of words.
-/
namespace Go.Proofs.YtlnckjemfabckaaGreatDoor
open Go.ChangeShapes Go.WideShapes Go.ChangeAt Go.RowKit Go.Deep

section
variable {H : Type} {enc : TypeId × Value → H} {P : Program} {w : World} {base : Nat} {spare : Nat → Bool} {held : Bool}

theorem flatten_get {s : Nat} : ∀ {rows : List (List Value)}, (∀ r ∈ rows, r.length = s) → ∀ (i j : Nat), j < s → (h : i < rows.length) → rows.flatten[i * s + j]? = (rows[i])[j]?
  | [], _, _, _, _, h => by simp at h
  | r :: rows, hr, i, j, hj, h => by
    have h0 : r.length = s := hr r (by simp)
    cases i with
    | zero => simp [List.getElem?_append_left (show j < r.length by omega)]
    | succ i =>
      have e : (i + 1) * s + j = i * s + j + s := by rw [Nat.add_mul]; omega
      rw [List.flatten_cons, List.getElem?_append_right (by omega), h0, e, Nat.add_sub_cancel]
      exact flatten_get (fun x hx => hr x (by simp [hx])) i j hj (by simpa using h)

theorem flatten_len {s : Nat} : ∀ {rows : List (List Value)}, (∀ r ∈ rows, r.length = s) → rows.flatten.length = rows.length * s
  | [], _ => by simp
  | r :: rows, hr => by
    rw [List.flatten_cons, List.length_append, hr r (by simp), flatten_len (fun x hx => hr x (by simp [hx]))]
    simp only [List.length_cons, Nat.add_mul]
    omega

/-- A reading by the rows: row i of s cells stands at 'a.add (i * s)'. -/
theorem reads_of_rows {B s n : Nat} {a : Addr} {rows : List (List Value)} (hb : 0 < n → a.block < B) (hl : rows.length = n) (hs : ∀ r ∈ rows, r.length = s)
    (hc : ∀ i (h : i < n), ∀ j, j < s → w.cell? ((a.add (i * s)).add j) = (rows[i]'(by omega))[j]?) : Reads w B s (some a) n rows.flatten := by
  refine ⟨by rw [flatten_len hs, hl], fun hn => ⟨a, rfl, hb hn, fun j u hu => ?_⟩⟩
  have hlt : j < n * s := by
    have h0 := (List.getElem?_eq_some_iff.1 hu).1
    rw [flatten_len hs, hl] at h0
    exact h0
  have hs0 : 0 < s := by
    rcases Nat.eq_zero_or_pos s with h | h
    · subst h; simp at hlt
    · exact h
  have hi : j / s < n := by rw [Nat.div_lt_iff_lt_mul hs0]; exact hlt
  have hm : j % s < s := Nat.mod_lt _ hs0
  have e : j / s * s + j % s = j := by rw [Nat.mul_comm]; exact Nat.div_add_mod j s
  have h1 := hc (j / s) hi (j % s) hm
  rw [add_of_add, e] at h1
  rw [h1, ← flatten_get hs (j / s) (j % s) hm (by omega), e]
  exact hu

/-- A slice argument: its rows. 'E': what the element's reading says of its cells. -/
theorem open_rows {t e : TypeId} {s B b0 : Nat} {v : Value} {d : DataW H} {ps : List MemPlace} (ht : P.underlying t = some (.slice e)) (hs : P.cellsOf e = s) (hs0 : 0 < s)
    (hv : Value.okWide P w .any b0 t v) (h : DataW.Trod enc P w base spare held t v d ps) (hlt : ∀ p ∈ ps, p.block < B) (hsp : ∀ a, spare a = true)
    (E : List Value → Prop) (hE : ∀ n cs' y, DataW.trod enc P w base spare held n e cs' = some y → (∀ p ∈ y.2, p.block < B) → E cs') :
    ∃ (A : Option Addr) (len cap : Nat) (rows : List (List Value)), v = .slice A len cap ∧ len ≤ cap ∧ cap ≤ maxLen ∧ rows.length = len ∧ Reads w B s A len rows.flatten ∧ ∀ r ∈ rows, r.length = s ∧ E r := by
  obtain ⟨A, len, cap, rfl⟩ := okWide_slice ht hv
  obtain ⟨fuel, hf⟩ := h
  rcases open_slice ht hf with ⟨hcs, _⟩ | ⟨a, len', cap', m, n, D, Pl, hcs, hba, hl, hm, hmm, hx, hi⟩
  · simp [Value.cells] at hcs
    obtain ⟨rfl, rfl, rfl⟩ := hcs
    exact ⟨none, 0, 0, [], rfl, Nat.le_refl _, Nat.zero_le _, rfl, Reads.none_, fun r hr => by cases hr⟩
  · simp [Value.cells] at hcs
    obtain ⟨rfl, rfl, rfl⟩ := hcs
    rw [hsp a.block, if_pos rfl] at hmm
    subst hmm
    simp only [Prod.mk.injEq] at hx
    rw [hs] at hx hi
    have hget : ∀ i, i < len → ∃ cs', (cs'.length = s ∧ ∀ j, j < s → w.cell? ((a.add (i * s)).add j) = cs'[j]?) ∧ E cs' := fun i h => by
      obtain ⟨cs', hc, htr⟩ := hi i (by omega)
      obtain ⟨_, h1, h2⟩ := World.cells?_some hc
      refine ⟨cs', ⟨h1, h2⟩, hE n cs' _ htr (fun p hp => hlt p ?_)⟩
      rw [hx.2, List.mem_append, List.mem_flatMap]
      exact .inr ⟨i, by simp; omega, hp⟩
    have hch : ∃ rows : List (List Value), rows.length = len ∧ ∀ i (h : i < rows.length), (rows[i].length = s ∧ ∀ j, j < s → w.cell? ((a.add (i * s)).add j) = rows[i][j]?) ∧ E rows[i] := by
      refine ⟨List.ofFn fun i : Fin len => (hget i.1 i.2).choose, by simp, fun i h => ?_⟩
      simp only [List.length_ofFn] at h
      simp only [List.getElem_ofFn]
      exact (hget i h).choose_spec
    obtain ⟨rows, hrl, hrows⟩ := hch
    have hall : ∀ r ∈ rows, r.length = s ∧ E r := fun r hr => by
      obtain ⟨i, hi, rfl⟩ := List.getElem_of_mem hr
      exact ⟨(hrows i hi).1.1, (hrows i hi).2⟩
    refine ⟨some a, len, _, rows, rfl, hl, hm, hrl, reads_of_rows (fun hn => ?_) hrl (fun r hr => (hall r hr).1) (fun i h j hj => (hrows i (by omega)).1.2 j hj), hall⟩
    refine hlt (.cell a.block (a.off + 0)) ?_
    rw [hx.2, List.mem_append]
    left
    unfold MemPlace.row
    rw [List.mem_map]
    refine ⟨0, ?_, rfl⟩
    rw [List.mem_range]
    exact Nat.mul_pos (by omega) hs0

/-- A slice of integers. -/
theorem open_words {t e : TypeId} {κ : IntKind} {B b0 : Nat} {v : Value} {d : DataW H} {ps : List MemPlace} (ht : P.underlying t = some (.slice e)) (he : P.underlying e = some (.int κ)) (hs : P.cellsOf e = 1)
    (hv : Value.okWide P w .any b0 t v) (h : DataW.Trod enc P w base spare held t v d ps) (hlt : ∀ p ∈ ps, p.block < B) (hsp : ∀ a, spare a = true) :
    ∃ A len cap l, v = .slice A len cap ∧ len ≤ cap ∧ cap ≤ maxLen ∧ l.length = len ∧ Reads w B 1 A len (ints κ l) ∧ ∀ x ∈ l, (Lit.int κ x).wf = true := by
  obtain ⟨A, len, cap, rows, hv, h1, h2, h3, h4, h5⟩ := open_rows ht hs (by omega) hv h hlt hsp (fun cs => ∃ x, cs = [.int κ x] ∧ (Lit.int κ x).wf = true) (fun n cs' y hy _ => by
    obtain ⟨x, h1, _, h3⟩ := DataW.trod_int he hy
    exact ⟨x, h1, h3⟩)
  have key : ∀ rows : List (List Value), (∀ r ∈ rows, r.length = 1 ∧ ∃ x, r = [Value.int κ x] ∧ (Lit.int κ x).wf = true) → ∃ l : List Int, l.length = rows.length ∧ ints κ l = rows.flatten ∧ ∀ x ∈ l, (Lit.int κ x).wf = true := by
    intro rows
    induction rows with
    | nil => intro _; exact ⟨[], rfl, rfl, by simp⟩
    | cons r rows ih =>
      intro h
      obtain ⟨l, e1, e2, e3⟩ := ih (fun r hr => h r (by simp [hr]))
      obtain ⟨x, rfl, hx⟩ := (h r (by simp)).2
      refine ⟨x :: l, by simp [e1], by simp [← e2, ints], fun y hy => ?_⟩
      rcases List.mem_cons.1 hy with rfl | hy
      · exact hx
      · exact e3 y hy
  obtain ⟨l, e1, e2, e3⟩ := key rows h5
  exact ⟨A, len, cap, l, hv, h1, h2, by omega, by rw [e2]; exact h4, e3⟩

/-- A slice of structs of two words. -/
theorem open_pairs {t e : TypeId} {f0 f1 : Field} {B b0 : Nat} {v : Value} {d : DataW H} {ps : List MemPlace} (ht : P.underlying t = some (.slice e)) (he : P.underlying e = some (.struct #[f0, f1]))
    (hone : oneCellFields P #[f0, f1] = true) (hf0 : P.underlying f0.type = some (.int .u64)) (hf1 : P.underlying f1.type = some (.int .u64)) (hs : P.cellsOf e = 2)
    (hv : Value.okWide P w .any b0 t v) (h : DataW.Trod enc P w base spare held t v d ps) (hlt : ∀ p ∈ ps, p.block < B) (hsp : ∀ a, spare a = true) :
    ∃ A len cap l, v = .slice A len cap ∧ len ≤ cap ∧ cap ≤ maxLen ∧ l.length = len ∧ Reads w B 2 A len (rec2 l) ∧ ∀ r ∈ l, W64 r.1 ∧ W64 r.2 := by
  obtain ⟨A, len, cap, rows, hv, h1, h2, h3, h4, h5⟩ := open_rows ht hs (by omega) hv h hlt hsp (fun cs => cs.length = 2 → ∃ x y, cs = [.int .u64 x, .int .u64 y] ∧ W64 x ∧ W64 y) (fun n cs' z hy _ hl => by
    obtain ⟨ys, n', hn', hy', hlen, hyl, hf⟩ := DataW.trod_struct he hy
    match cs', hl with
    | [a, b], _ =>
      obtain ⟨o0, k0⟩ := hone_of hone 0 f0 rfl
      obtain ⟨o1, k1⟩ := hone_of hone 1 f1 rfl
      match ys, hyl with
      | [y0, y1], _ =>
        have g0 := hf 0 f0 rfl
        have g1 := hf 1 f1 rfl
        simp [o0, o1, k0, k1] at g0 g1
        obtain ⟨x, hx, _, wx⟩ := DataW.trod_int hf0 g0
        obtain ⟨y, hy, _, wy⟩ := DataW.trod_int hf1 g1
        simp at hx hy
        exact ⟨x, y, by rw [hx, hy], W64.of_wf wx, W64.of_wf wy⟩)
  have key : ∀ rows : List (List Value), (∀ r ∈ rows, r.length = 2 ∧ (r.length = 2 → ∃ x y, r = [Value.int .u64 x, .int .u64 y] ∧ W64 x ∧ W64 y)) → ∃ l : List (Int × Int), l.length = rows.length ∧ rec2 l = rows.flatten ∧ ∀ r ∈ l, W64 r.1 ∧ W64 r.2 := by
    intro rows
    induction rows with
    | nil => intro _; exact ⟨[], rfl, rfl, by simp⟩
    | cons r rows ih =>
      intro h
      obtain ⟨l, e1, e2, e3⟩ := ih (fun r hr => h r (by simp [hr]))
      obtain ⟨h1, h2⟩ := h r (by simp)
      obtain ⟨x, y, rfl, hx, hy⟩ := h2 h1
      refine ⟨(x, y) :: l, by simp [e1], by simp [← e2, rec2], fun z hz => ?_⟩
      rcases List.mem_cons.1 hz with rfl | hz
      · exact ⟨hx, hy⟩
      · exact e3 z hz
  obtain ⟨l, e1, e2, e3⟩ := key rows h5
  exact ⟨A, len, cap, l, hv, h1, h2, by omega, by rw [e2]; exact h4, e3⟩

/-- A struct by value, whatever its one-cell fields: its cells, each with its own reading. -/
theorem open_flat {t : TypeId} {fs : Array Field} {b0 : Nat} {v : Value} {d : DataW H} {ps : List MemPlace} (ht : P.underlying t = some (.struct fs)) (hone : oneCellFields P fs = true) (hC : P.cellsOf t = fs.size)
    (hv : Value.okWide P w .any b0 t v) (h : DataW.Trod enc P w base spare held t v d ps) :
    ∃ l : List Value, v = .agg l.toArray ∧ l.length = fs.size ∧ ∀ (j : Nat) (f : Field), fs[j]? = some f → ∃ x n y, l[j]? = some x ∧ DataW.trod enc P w base spare held n f.type [x] = some y ∧ ∀ p ∈ y.2, p ∈ ps := by
  obtain ⟨cs, rfl, hsz⟩ := okWide_struct ht hv
  obtain ⟨l⟩ := cs
  have hl : l.length = fs.size := by simpa using hsz.trans hC
  obtain ⟨fuel, hf⟩ := h
  obtain ⟨ys, n, _, hx, _, hlen, hg⟩ := DataW.trod_struct ht hf
  simp only [Prod.mk.injEq] at hx
  refine ⟨l, rfl, hl, fun j f hj => ?_⟩
  obtain ⟨ho, hk⟩ := hone_of hone j f hj
  have hjl : j < fs.size := (Array.getElem?_eq_some_iff.1 hj).1
  have h1 := hg j f hj
  rw [ho, hk] at h1
  have hone' : ((Value.agg l.toArray).cells.toList.drop j).take 1 = [l[j]'(by omega)] := by
    show (l.drop j).take 1 = _
    rw [List.drop_eq_getElem_cons (by omega)]
    rfl
  rw [hone'] at h1
  have hys : ys[j]? = some (ys[j]'(by omega)) := List.getElem?_eq_getElem (by omega)
  refine ⟨l[j]'(by omega), n, ys[j]'(by omega), List.getElem?_eq_getElem (by omega), h1.trans hys, fun p hp => ?_⟩
  rw [hx.2, List.mem_flatMap]
  exact ⟨ys[j]'(by omega), List.getElem_mem _, hp⟩

/-- A struct of five ints by value. -/
theorem open_five {t : TypeId} {κ : IntKind} {f0 f1 f2 f3 f4 : Field} {b0 : Nat} {v : Value} {d : DataW H} {ps : List MemPlace} (ht : P.underlying t = some (.struct #[f0, f1, f2, f3, f4])) (hone : oneCellFields P #[f0, f1, f2, f3, f4] = true) (hC : P.cellsOf t = 5)
    (k0 : P.underlying f0.type = some (.int κ)) (k1 : P.underlying f1.type = some (.int κ)) (k2 : P.underlying f2.type = some (.int κ)) (k3 : P.underlying f3.type = some (.int κ)) (k4 : P.underlying f4.type = some (.int κ))
    (hv : Value.okWide P w .any b0 t v) (h : DataW.Trod enc P w base spare held t v d ps) :
    ∃ a0 a1 a2 a3 a4, v = .agg #[.int κ a0, .int κ a1, .int κ a2, .int κ a3, .int κ a4] ∧ (Lit.int κ a0).wf = true ∧ (Lit.int κ a1).wf = true ∧ (Lit.int κ a2).wf = true ∧ (Lit.int κ a3).wf = true ∧ (Lit.int κ a4).wf = true := by
  obtain ⟨l, rfl, hl, hf⟩ := open_flat ht hone hC hv h
  match l, hl with
  | [x0, x1, x2, x3, x4], _ =>
    obtain ⟨y0, n0, z0, e0, g0, _⟩ := hf 0 f0 rfl
    obtain ⟨y1, n1, z1, e1, g1, _⟩ := hf 1 f1 rfl
    obtain ⟨y2, n2, z2, e2, g2, _⟩ := hf 2 f2 rfl
    obtain ⟨y3, n3, z3, e3, g3, _⟩ := hf 3 f3 rfl
    obtain ⟨y4, n4, z4, e4, g4, _⟩ := hf 4 f4 rfl
    obtain ⟨a0, h0, _, w0⟩ := DataW.trod_int k0 g0
    obtain ⟨a1, h1, _, w1⟩ := DataW.trod_int k1 g1
    obtain ⟨a2, h2, _, w2⟩ := DataW.trod_int k2 g2
    obtain ⟨a3, h3, _, w3⟩ := DataW.trod_int k3 g3
    obtain ⟨a4, h4, _, w4⟩ := DataW.trod_int k4 g4
    simp at e0 e1 e2 e3 e4 h0 h1 h2 h3 h4
    exact ⟨a0, a1, a2, a3, a4, by rw [e0, e1, e2, e3, e4, h0, h1, h2, h3, h4], w0, w1, w2, w3, w4⟩
end
end Go.Proofs.YtlnckjemfabckaaGreatDoor

/-
  Slices of records that may bear slices of their own: read as a list of records.
-/
namespace Go.Proofs.YtlnckjemfabckaaGreatDoor
open Go.ChangeShapes Go.WideShapes Go.ChangeAt Go.RowKit Go.Deep

theorem flatMap_row {α : Type} {f : α → List Value} {s : Nat} (hf : ∀ a, (f a).length = s) : ∀ (l : List α) (k j : Nat) (h : k < l.length), j < s → (l.flatMap f)[k * s + j]? = (f l[k])[j]?
  | [], _, _, h, _ => by simp at h
  | a :: l, 0, j, _, hj => by
    simp only [List.flatMap_cons, Nat.zero_mul, Nat.zero_add, List.getElem_cons_zero]
    rw [List.getElem?_append_left (by rw [hf]; exact hj)]
  | a :: l, k + 1, j, h, hj => by
    have e : (k + 1) * s + j = k * s + j + s := by rw [Nat.add_mul]; omega
    rw [List.flatMap_cons, List.getElem?_append_right (by rw [hf]; omega), hf, e, Nat.add_sub_cancel]
    exact flatMap_row hf l k j (by simpa using h) hj
theorem flatMap_len {α : Type} {f : α → List Value} {s : Nat} (hf : ∀ a, (f a).length = s) (l : List α) : (l.flatMap f).length = l.length * s := by
  induction l with
  | nil => simp
  | cons a l ih => rw [List.flatMap_cons, List.length_append, hf, ih, List.length_cons, Nat.add_mul]; omega
theorem Reads.lenRec {α : Type} {f : α → List Value} {w : World} {B s n : Nat} {A : Option Addr} {l : List α} (hf : ∀ a, (f a).length = s) (hs : 0 < s) (h : Reads w B s A n (l.flatMap f)) : l.length = n := by
  have := h.1
  rw [flatMap_len hf] at this
  exact Nat.eq_of_mul_eq_mul_right hs this
theorem Reads.recAt {α : Type} {f : α → List Value} {w : World} {B s n k : Nat} {A : Option Addr} {l : List α} (hf : ∀ a, (f a).length = s) (hs : 0 < s) (h : Reads w B s A n (l.flatMap f)) (hk : k < n) :
    ∃ ad a, A = some ad ∧ ad.block < B ∧ l[k]? = some a ∧ w.cell? (ad.add (k * s)) = (f a)[0]? ∧ ∀ j, 0 < j → j < s → w.cell? ⟨(ad.add (k * s)).block, (ad.add (k * s)).off + j, none⟩ = (f a)[j]? := by
  have hl := h.lenRec hf hs
  obtain ⟨ad, rfl, hb, h0, h1⟩ := h.row hk
  refine ⟨ad, l[k], rfl, hb, List.getElem?_eq_getElem (by omega), ?_, fun j hj0 hj => ?_⟩
  · have := flatMap_row hf l k 0 (by omega) hs
    rw [Nat.add_zero] at this
    rw [h0 hs, this]
  · rw [h1 j hj0 hj, flatMap_row hf l k j (by omega) hj]

section
variable {H : Type} {enc : TypeId × Value → H} {P : Program} {w : World} {base : Nat} {spare : Nat → Bool} {held : Bool}

theorem recs_of_rows {α : Type} (f : α → List Value) (Q : α → Prop) : ∀ rows : List (List Value), (∀ r ∈ rows, ∃ a, r = f a ∧ Q a) → ∃ l : List α, l.length = rows.length ∧ l.flatMap f = rows.flatten ∧ ∀ a ∈ l, Q a
  | [], _ => ⟨[], rfl, rfl, by simp⟩
  | r :: rows, h => by
    obtain ⟨l, e1, e2, e3⟩ := recs_of_rows f Q rows (fun r hr => h r (by simp [hr]))
    obtain ⟨a, rfl, ha⟩ := h r (by simp)
    refine ⟨a :: l, by simp [e1], by simp [e2], fun x hx => ?_⟩
    rcases List.mem_cons.1 hx with rfl | hx
    · exact ha
    · exact e3 x hx

/-- A slice within a record. -/
theorem open_recs_in {α : Type} {t e : TypeId} {s B fuel : Nat} {cs : List Value} {y : DataW H × List MemPlace} (f : α → List Value) (Q : α → Prop) (ht : P.underlying t = some (.slice e)) (hs : P.cellsOf e = s) (hs0 : 0 < s)
    (h : DataW.trod enc P w base spare held fuel t cs = some y) (hlt : ∀ p ∈ y.2, p.block < B) (hsp : ∀ a, spare a = true)
    (hE : ∀ n cs' y, DataW.trod enc P w base spare held n e cs' = some y → (∀ p ∈ y.2, p.block < B) → cs'.length = s → ∃ a, cs' = f a ∧ Q a) :
    ∃ (A : Option Addr) (len cap : Nat) (l : List α), cs = [.slice A len cap] ∧ len ≤ cap ∧ cap ≤ maxLen ∧ l.length = len ∧ Reads w B s A len (l.flatMap f) ∧ ∀ a ∈ l, Q a := by
  rcases open_slice ht h with ⟨hcs, _⟩ | ⟨a, len', cap', m, n, D, Pl, hcs, hba, hl, hm, hmm, hx, hi⟩
  · exact ⟨none, 0, 0, [], hcs, Nat.le_refl _, Nat.zero_le _, rfl, Reads.none_, fun r hr => by cases hr⟩
  · rw [hsp a.block, if_pos rfl] at hmm
    subst hmm
    rw [hs] at hx hi
    have hget : ∀ i, i < len' → ∃ cs', (cs'.length = s ∧ ∀ j, j < s → w.cell? ((a.add (i * s)).add j) = cs'[j]?) ∧ ∃ a, cs' = f a ∧ Q a := fun i h => by
      obtain ⟨cs', hc, htr⟩ := hi i (by omega)
      obtain ⟨_, h1, h2⟩ := World.cells?_some hc
      refine ⟨cs', ⟨h1, h2⟩, hE n cs' _ htr (fun p hp => hlt p ?_) h1⟩
      rw [hx]
      simp only
      rw [List.mem_append, List.mem_flatMap]
      exact .inr ⟨i, by simp; omega, hp⟩
    have hch : ∃ rows : List (List Value), rows.length = len' ∧ ∀ i (h : i < rows.length), (rows[i].length = s ∧ ∀ j, j < s → w.cell? ((a.add (i * s)).add j) = rows[i][j]?) ∧ ∃ a, rows[i] = f a ∧ Q a := by
      refine ⟨List.ofFn fun i : Fin len' => (hget i.1 i.2).choose, by simp, fun i h => ?_⟩
      simp only [List.length_ofFn] at h
      simp only [List.getElem_ofFn]
      exact (hget i h).choose_spec
    obtain ⟨rows, hrl, hrows⟩ := hch
    have hall : ∀ r ∈ rows, r.length = s ∧ ∃ a, r = f a ∧ Q a := fun r hr => by
      obtain ⟨i, hi, rfl⟩ := List.getElem_of_mem hr
      exact ⟨(hrows i hi).1.1, (hrows i hi).2⟩
    obtain ⟨l, e1, e2, e3⟩ := recs_of_rows f Q rows (fun r hr => (hall r hr).2)
    refine ⟨some a, len', _, l, hcs, hl, hm, by omega, ?_, e3⟩
    rw [e2]
    refine reads_of_rows (fun hn => ?_) hrl (fun r hr => (hall r hr).1) (fun i h j hj => (hrows i (by omega)).1.2 j hj)
    refine hlt (.cell a.block (a.off + 0)) ?_
    rw [hx]
    simp only
    rw [List.mem_append]
    left
    unfold MemPlace.row
    rw [List.mem_map]
    refine ⟨0, ?_, rfl⟩
    rw [List.mem_range]
    exact Nat.mul_pos (by omega) hs0

/-- A slice argument of records. -/
theorem open_recs {α : Type} {t e : TypeId} {s B b0 : Nat} {v : Value} {d : DataW H} {ps : List MemPlace} (f : α → List Value) (Q : α → Prop) (ht : P.underlying t = some (.slice e)) (hs : P.cellsOf e = s) (hs0 : 0 < s)
    (hv : Value.okWide P w .any b0 t v) (h : DataW.Trod enc P w base spare held t v d ps) (hlt : ∀ p ∈ ps, p.block < B) (hsp : ∀ a, spare a = true)
    (hE : ∀ n cs' y, DataW.trod enc P w base spare held n e cs' = some y → (∀ p ∈ y.2, p.block < B) → cs'.length = s → ∃ a, cs' = f a ∧ Q a) :
    ∃ (A : Option Addr) (len cap : Nat) (l : List α), v = .slice A len cap ∧ len ≤ cap ∧ cap ≤ maxLen ∧ l.length = len ∧ Reads w B s A len (l.flatMap f) ∧ ∀ a ∈ l, Q a := by
  obtain ⟨A, len, cap, rfl⟩ := okWide_slice ht hv
  obtain ⟨fuel, hf⟩ := h
  obtain ⟨A', len', cap', l, hcs, h1, h2, h3, h4, h5⟩ := open_recs_in f Q ht hs hs0 hf hlt hsp hE
  simp [Value.cells] at hcs
  obtain ⟨rfl, rfl, rfl⟩ := hcs
  exact ⟨A, len, cap, l, rfl, h1, h2, h3, h4, h5⟩

/-- A field of a record, read at its own cells. -/
theorem fldN {fs : Array Field} {e : TypeId} {fuel : Nat} {cs : List Value} {y : DataW H × List MemPlace} (he : P.underlying e = some (.struct fs))
    (hy : DataW.trod enc P w base spare held fuel e cs = some y) (j : Nat) (f : Field) (hj : fs[j]? = some f) : ∃ n z, DataW.trod enc P w base spare held n f.type ((cs.drop f.offset).take (P.cellsOf f.type)) = some z ∧ ∀ p ∈ z.2, p ∈ y.2 := by
  obtain ⟨ys, m, _, hx, _, hyl, hf⟩ := DataW.trod_struct he hy
  have h1 := hf j f hj
  have hjl : j < fs.size := (Array.getElem?_eq_some_iff.1 hj).1
  have hys : ys[j]? = some (ys[j]'(by omega)) := List.getElem?_eq_getElem (by omega)
  refine ⟨m, ys[j]'(by omega), h1.trans hys, fun p hp => ?_⟩
  rw [hx]
  simp only
  rw [List.mem_flatMap]
  exact ⟨ys[j]'(by omega), List.getElem_mem _, hp⟩
theorem fldT {fs : Array Field} {e : TypeId} {fuel : Nat} {cs : List Value} {y : DataW H × List MemPlace} (he : P.underlying e = some (.struct fs))
    (hy : DataW.trod enc P w base spare held fuel e cs = some y) (j off wd : Nat) (ty : TypeId) (hj : (fs[j]?).map (fun f => (f.type, f.offset)) = some (ty, off)) (hw : P.cellsOf ty = wd) :
    ∃ n z, DataW.trod enc P w base spare held n ty ((cs.drop off).take wd) = some z ∧ ∀ p ∈ z.2, p ∈ y.2 := by
  cases hf : fs[j]? with
  | none => rw [hf] at hj; cases hj
  | some f =>
    rw [hf] at hj
    simp only [Option.map_some, Option.some.injEq, Prod.mk.injEq] at hj
    obtain ⟨rfl, rfl⟩ := hj
    rw [← hw]
    exact fldN he hy j f hf
end
end Go.Proofs.YtlnckjemfabckaaGreatDoor

/-
  dump.text; a step's words.
-/
namespace Go.Proofs.YtlnckjemfabckaaGreatDoor
open Go.RowKit
attribute [local go_sem] past_cell past_cell_add

theorem own_lit (w : World) (e : TypeId) (cs : Array Value) (n lo : Nat) (h : lo ≤ w.heap.size) (hn : cs.size = n) (hm : n ≤ 1000) : (w.alloc (.cells cs e)).ownsRow lo e 1 (.slice (some ⟨w.heap.size, 0, none⟩) n n) n cs.toList := by
  subst hn
  exact ⟨by simp, .inr ⟨w.heap.size, cs.size, cs, rfl, h, heap_alloc_new w _, Nat.le_refl _, by unfold maxLen; omega, by simp, List.take_of_length_le (by simp)⟩⟩

set_option maxHeartbeats 1000000 in
theorem dtext_any (base n c : Nat) (A : Option Addr) (ws : List ByteArray) (w : World) (ho : w.ownsRow base 9 1 (.slice A n c) n (strs ws)) (hn : 0 < n) (hs : (joinT ws).size ≤ 1000000) (hm : n ≤ 1000000) :
    Calls Tryz.prog 48 #[.slice A n c] w fun e w' => e = .returned (.string (joinT ws)) ∧ Below w.heap.size w w' := by
  have hl : ws.length = n := by have := ho.1; rw [strs_len] at this; omega
  rcases ho.2 with ⟨_, h0⟩ | ⟨g, cap, cur, hv, _, hg, hnc, _, hsz, ht⟩
  · omega
  injection hv with e1 e2 e3
  subst e1 e3
  have hlt : g < w.heap.size := Blk.lt hg
  have J := hide (join_any g 0 c ws w (fun j x hx => by
    have h1 := cell_of_row w g j cur 9 (0, 0) hg
    rw [Nat.zero_add, h1]
    have h2 : (strs ws)[j]? = some (.string x) := by unfold strs; rw [List.getElem?_map, hx]; rfl
    have hj : j < ws.length := (List.getElem?_eq_some_iff.1 hx).1
    rw [← ht, List.getElem?_take] at h2
    rw [if_pos (by omega)] at h2
    rw [← Array.getElem?_toList]
    exact h2) hlt (by omega) (by omega) (by
      have : (joinT ws).size = (Lib.join (ws.map (·.data.toList)) [32]).length := by simp [joinT, ByteArray.size]
      omega))
  rw [hl, show (⟨(Lib.join (ws.map (·.data.toList)) [32]).toArray⟩ : ByteArray) = joinT ws from rfl] at J
  generalize joinT ws = r at *
  clear ho ht hl hsz hg
  go_enter Tryz.func48, Tryz.ntmps48
  go_wp2_with fail
  refine J.out.mono ?_
  rintro e w1 ⟨rfl, hb1⟩
  go_wp2_with fail
  go_ret
  exact ⟨rfl, hb1⟩

end Go.Proofs.YtlnckjemfabckaaGreatDoor

/-
  Layout, in plain numbers: which word stands where.
-/
namespace Go.Proofs.YtlnckjemfabckaaGreatDoor

/-- A configuration that may be. -/
def cfgOk (s t f l p : Int) : Bool := decide (1 ≤ s ∧ s ≤ 1000 ∧ 1 ≤ t ∧ t ≤ 64 ∧ 4 ≤ f ∧ f ≤ 64 ∧ 1 ≤ l ∧ l ≤ 64 ∧ 1 ≤ p ∧ p ≤ 1048576)
theorem cfgOk_iff {s t f l p : Int} : cfgOk s t f l p = true ↔ (1 ≤ s ∧ s ≤ 1000 ∧ 1 ≤ t ∧ t ≤ 64 ∧ 4 ≤ f ∧ f ≤ 64 ∧ 1 ≤ l ∧ l ≤ 64 ∧ 1 ≤ p ∧ p ≤ 1048576) := by unfold cfgOk; simp

/-- How many words there are. -/
def laySize (s t f : Int) : Int := 3 + 3 * t + (s + 1) * (3 + 2 * f)
/-- A word's place. -/
def plc (s t f a : Int) : Int × Int × Int :=
  if a < 0 ∨ laySize s t f ≤ a then (0, 0, 0)
  else if a < 3 then (a + 1, 0, 0)
  else if a < 3 + t then (4, a - 3, 0)
  else if a < 3 + 3 * t then (5, (a - 3 - t) / 2, (a - 3 - t) % 2)
  else if (a - (3 + 3 * t)) % (3 + 2 * f) < 3 then (6 + (a - (3 + 3 * t)) % (3 + 2 * f), (a - (3 + 3 * t)) / (3 + 2 * f), 0)
  else if (a - (3 + 3 * t)) % (3 + 2 * f) < 3 + f then (9, (a - (3 + 3 * t)) / (3 + 2 * f), (a - (3 + 3 * t)) % (3 + 2 * f) - 3)
  else (10, (a - (3 + 3 * t)) / (3 + 2 * f), (a - (3 + 3 * t)) % (3 + 2 * f) - 3 - f)

/-- A node's word: its number within the node, and how many such there are; the number of a place's word. -/
def nodAt (f k : Int) : Int := if k = 6 then 0 else if k = 7 then 1 else if k = 8 then 2 else if k = 9 then 3 else 3 + f
def nodMany (f k : Int) : Int := if k = 9 ∨ k = 10 then f else 1
def nod (s t f k o i : Int) : Int :=
  if k < 6 ∨ 10 < k ∨ o < 0 ∨ s + 1 ≤ o ∨ i < 0 ∨ nodMany f k ≤ i then -1 else 3 + 3 * t + o * (3 + 2 * f) + nodAt f k + i
def atp (s t f k o i : Int) : Int :=
  if 1 ≤ k ∧ k ≤ 3 ∧ o = 0 ∧ i = 0 then k - 1
  else if k = 4 ∧ i = 0 ∧ 0 ≤ o ∧ o < t then 3 + o
  else if k = 5 ∧ 0 ≤ i ∧ i < 2 ∧ 0 ≤ o ∧ o < t then 3 + t + 2 * o + i
  else nod s t f k o i

theorem size_pos {s t f : Int} (hs : 1 ≤ s ∧ s ≤ 1000) (ht : 1 ≤ t ∧ t ≤ 64) (hf : 4 ≤ f ∧ f ≤ 64) : 3 + 3 * t < laySize s t f ∧ laySize s t f ≤ 131326 := by
  unfold laySize
  have h1 : 0 < (s + 1) * (3 + 2 * f) := Int.mul_pos (by omega) (by omega)
  have h2 : (s + 1) * (3 + 2 * f) ≤ 1001 * 131 := Int.mul_le_mul (by omega) (by omega) (by omega) (by omega)
  omega

/-- The parts of a number below a product. -/
theorem div_parts {d W n : Int} (hW : 0 < W) (h0 : 0 ≤ d) (h1 : d < n * W) : 0 ≤ d / W ∧ d / W < n ∧ 0 ≤ d % W ∧ d % W < W ∧ d = d / W * W + d % W := by
  have e := Int.mul_ediv_add_emod d W
  exact ⟨Int.ediv_nonneg h0 (by omega), Int.ediv_lt_of_lt_mul hW h1, Int.emod_nonneg _ (by omega), Int.emod_lt_of_pos _ hW, by rw [Int.mul_comm]; exact e.symm⟩
theorem div_back {o W j : Int} (h0 : 0 ≤ j) (h1 : j < W) : (o * W + j) / W = o ∧ (o * W + j) % W = j := by
  rw [Int.add_comm, Int.add_mul_ediv_right _ _ (by omega), Int.add_mul_emod_self_right]
  rw [Int.ediv_eq_zero_of_lt h0 h1, Int.emod_eq_of_lt h0 h1]
  exact ⟨by omega, rfl⟩

/-- Each word's place leads back to it. -/
theorem atp_plc {s t f a : Int} (hs : 1 ≤ s ∧ s ≤ 1000) (ht : 1 ≤ t ∧ t ≤ 64) (hf : 4 ≤ f ∧ f ≤ 64) :
    atp s t f (plc s t f a).1 (plc s t f a).2.1 (plc s t f a).2.2 = if a < 0 ∨ laySize s t f ≤ a then -1 else a := by
  have hz := size_pos hs ht hf
  unfold plc
  by_cases c0 : a < 0 ∨ laySize s t f ≤ a
  · rw [if_pos c0, if_pos c0]
    simp [atp, nod]
  rw [if_neg c0, if_neg c0]
  by_cases c1 : a < 3
  · rw [if_pos c1]
    unfold atp
    rw [if_pos (by simp; omega)]
    simp
  rw [if_neg c1]
  by_cases c2 : a < 3 + t
  · rw [if_pos c2]
    unfold atp
    rw [if_neg (by simp), if_pos (by simp; omega)]
    simp
    omega
  rw [if_neg c2]
  by_cases c3 : a < 3 + 3 * t
  · rw [if_pos c3]
    unfold atp
    rw [if_neg (by simp), if_neg (by simp), if_pos (by simp; omega)]
    simp
    omega
  rw [if_neg c3]
  have hd := div_parts (d := a - (3 + 3 * t)) (W := 3 + 2 * f) (n := s + 1) (by omega) (by omega) (by unfold laySize at c0; omega)
  generalize (a - (3 + 3 * t)) / (3 + 2 * f) = o at *
  generalize (a - (3 + 3 * t)) % (3 + 2 * f) = j at *
  obtain ⟨d1, d2, d3, d4, d5⟩ := hd
  by_cases c4 : j < 3
  · rw [if_pos c4]
    have hj : j = 0 ∨ j = 1 ∨ j = 2 := by omega
    unfold atp nod nodMany nodAt
    rw [if_neg (by simp; omega), if_neg (by simp; omega), if_neg (by simp; omega)]
    rcases hj with rfl | rfl | rfl
    all_goals
      simp
      rw [if_neg (by omega)]
      omega
  rw [if_neg c4]
  by_cases c5 : j < 3 + f
  · rw [if_pos c5]
    unfold atp nod nodMany nodAt
    simp
    rw [if_neg (by omega)]
    omega
  · rw [if_neg c5]
    unfold atp nod nodMany nodAt
    simp
    rw [if_neg (by omega)]
    omega
end Go.Proofs.YtlnckjemfabckaaGreatDoor

/-
  Package config: all, check, Right; gleaningref07: Numbers, Wrong.
-/
namespace Go.Proofs.YtlnckjemfabckaaGreatDoor
open Go.RowKit

/-- The numbers of a configuration, and their bounds. -/
def cN (s t f l p : Int) (k : Nat) : Int := [s, t, f, l, p].getD k 0
def cLo (k : Nat) : Int := [(1 : Int), 1, 4, 1, 1].getD k 0
def cHi (k : Nat) : Int := [(1000 : Int), 64, 64, 64, 1048576].getD k 0
def cIn (s t f l p : Int) (k : Nat) : Prop := cLo k ≤ cN s t f l p k ∧ cN s t f l p k ≤ cHi k
theorem five {k : Nat} (h : k < 5) : k = 0 ∨ k = 1 ∨ k = 2 ∨ k = 3 ∨ k = 4 := by omega
theorem cfg_all {s t f l p : Int} (h : ∀ k, k < 5 → cIn s t f l p k) : cfgOk s t f l p = true := by
  have h0 : 1 ≤ s ∧ s ≤ 1000 := h 0 (by omega)
  have h1 : 1 ≤ t ∧ t ≤ 64 := h 1 (by omega)
  have h2 : 4 ≤ f ∧ f ≤ 64 := h 2 (by omega)
  have h3 : 1 ≤ l ∧ l ≤ 64 := h 3 (by omega)
  have h4 : 1 ≤ p ∧ p ≤ 1048576 := h 4 (by omega)
  rw [cfgOk_iff]
  omega
theorem cfg_no {s t f l p : Int} {k : Nat} (hk : k < 5) (h : ¬ cIn s t f l p k) : cfgOk s t f l p = false := by
  rw [Bool.eq_false_iff]
  intro e
  rw [cfgOk_iff] at e
  apply h
  unfold cIn
  rcases five hk with rfl | rfl | rfl | rfl | rfl
  · show 1 ≤ s ∧ s ≤ 1000; omega
  · show 1 ≤ t ∧ t ≤ 64; omega
  · show 4 ≤ f ∧ f ≤ 64; omega
  · show 1 ≤ l ∧ l ≤ 64; omega
  · show 1 ≤ p ∧ p ≤ 1048576; omega

def I64s (s t f l p : Int) : Prop := I64 s ∧ I64 t ∧ I64 f ∧ I64 l ∧ I64 p
theorem cN_I64 {s t f l p : Int} (h : I64s s t f l p) {k : Nat} (hk : k < 5) : I64 (cN s t f l p k) := by
  obtain ⟨h0, h1, h2, h3, h4⟩ := h
  rcases five hk with rfl | rfl | rfl | rfl | rfl
  · exact h0
  · exact h1
  · exact h2
  · exact h3
  · exact h4
def bndA (s t f l p : Int) : Array Value := #[.int .i64 s, .int .i64 1, .int .i64 1000, .int .i64 t, .int .i64 1, .int .i64 64, .int .i64 f, .int .i64 4, .int .i64 64, .int .i64 l, .int .i64 1, .int .i64 64, .int .i64 p, .int .i64 1, .int .i64 1048576]
theorem bndA_at (s t f l p : Int) {k : Nat} (hk : k < 5) : (bndA s t f l p)[k * 3]? = some (.int .i64 (cN s t f l p k)) ∧ (bndA s t f l p)[k * 3 + 1]? = some (.int .i64 (cLo k)) ∧ (bndA s t f l p)[k * 3 + 2]? = some (.int .i64 (cHi k)) := by
  rcases five hk with rfl | rfl | rfl | rfl | rfl
  all_goals exact ⟨rfl, rfl, rfl⟩
def numA (s t f l p : Int) : Array Value := #[.int .i64 s, .int .i64 t, .int .i64 f, .int .i64 l, .int .i64 p]
theorem numA_at (s t f l p : Int) {k : Nat} (hk : k < 5) : (numA s t f l p)[k]? = some (.int .i64 (cN s t f l p k)) := by
  rcases five hk with rfl | rfl | rfl | rfl | rfl
  all_goals rfl
theorem lo_at {k : Nat} (hk : k < 5) : (numA 1 1 4 1 1)[k]? = some (.int .i64 (cLo k)) := by
  rcases five hk with rfl | rfl | rfl | rfl | rfl
  all_goals rfl
theorem hi_at {k : Nat} (hk : k < 5) : (numA 1000 64 64 64 1048576)[k]? = some (.int .i64 (cHi k)) := by
  rcases five hk with rfl | rfl | rfl | rfl | rfl
  all_goals rfl

set_option maxHeartbeats 400000 in
theorem call_any (s t f l p : Int) (w : World) :
    Calls Tryz.prog 125 #[.agg #[.int .i64 s, .int .i64 t, .int .i64 f, .int .i64 l, .int .i64 p]] w fun e w' => (∃ g, e = .returned (.slice (some ⟨g, 0, none⟩) 5 5) ∧ Blk w' g 158 (bndA s t f l p)) ∧ Below w.heap.size w w' := by
  go_enter Tryz.func125, Tryz.ntmps125
  go_wp2_with fail
  go_ret
  have h := fun o => Blk.new (w.alloc o) 158 (bndA s t f l p)
  simp only [World.size_alloc] at h
  exact ⟨⟨_, rfl, h _⟩, ((Below.refl _ _).alloc (Nat.le_refl _) _).alloc (by simp only [World.size_alloc]; omega) _⟩

def wordsB : ByteArray := ⟨#[115, 108, 111, 116, 115, 32, 116, 104, 114, 101, 97, 100, 115, 32, 102, 97, 110, 32, 108, 105, 109, 98, 111, 32, 112, 97, 116, 105, 101, 110, 99, 101]⟩
theorem fieldsW (w : World) (hT : Tab w) :
    Calls Tryz.prog 105 #[.string wordsB] w fun e w' => (∃ g cs, e = .returned (.slice (some ⟨g, 0, none⟩) 5 5) ∧ Blk w' g 9 cs ∧ ∀ k, k < 5 → ∃ x, cs[k]? = some (.string x)) ∧ Below w.heap.size w w' := by
  have hasc : ∀ (j : Nat) b, wordsB.data.toList[j]? = some b → b.toNat < 128 := by
    intro j b hb
    have hm := List.mem_of_getElem? hb
    have hall : (wordsB.data.toList.all fun b => decide (b.toNat < 128)) = true := by decide
    simpa using List.all_eq_true.1 hall b hm
  refine (fields_any wordsB w (by decide) hasc (fun c hc => hT.2 c hc)).mono ?_
  rintro e w' ⟨rfl, rfl⟩
  have hl : (Lib.fields wordsB.data.toList).length = 5 := by decide
  rw [hl]
  refine ⟨⟨_, _, rfl, Blk.new _ _ _, fun k hk => ?_⟩, (Below.refl _ _).alloc (Nat.le_refl _) _⟩
  have hk2 : k < (Lib.fields wordsB.data.toList).length := by omega
  exact ⟨_, by rw [List.getElem?_toArray, List.getElem?_map, List.getElem?_eq_getElem hk2]; rfl⟩

def ChkIn (w : World) (P : Nat → Prop) (i : Value) (wr : World) : Prop := ∃ k : Nat, i = .int .i64 k ∧ k ≤ 5 ∧ (∀ j, j < k → P j) ∧ Below w.heap.size w wr
/-- An error, or none. -/
def ErrIs (ok : Bool) (v : Value) : Prop := if ok = true then v = .nilIface else ∃ a, v = .iface 159 (.pointer (some a))

set_option maxHeartbeats 1000000 in
theorem check_any (s t f l p : Int) (w : World) (hT : Tab w) :
    Calls Tryz.prog 121 #[.agg #[.int .i64 s, .int .i64 t, .int .i64 f, .int .i64 l, .int .i64 p]] w fun e w' => (∃ v, e = .returned v ∧ ErrIs (cfgOk s t f l p) v) ∧ Below w.heap.size w w' := by
  have F := hide (fun w2 (hb : Below w.heap.size w w2) => fieldsW w2 (hT.below hb))
  have C := hide (fun w2 => call_any s t f l p w2)
  have bx := Blk.new w 23 #[.int .i64 s, .int .i64 t, .int .i64 f, .int .i64 l, .int .i64 p]
  go_enter Tryz.func121, Tryz.ntmps121
  go_wp2_with fail
  have B0 := (Below.refl w.heap.size w).alloc (Nat.le_refl _) (.cells #[.int .i64 s, .int .i64 t, .int .i64 f, .int .i64 l, .int .i64 p] 23)
  refine (F.out _ B0).mono ?_
  rintro e w1 ⟨⟨g1, cs, rfl, b1, hcs⟩, hb1⟩
  have B1 := B0.trans (hb1.mono B0.size)
  have bx1 := bx.below hb1 bx.lt
  have m1 := fun i => bx1.cell i
  have HCS := hide hcs
  have HB1 := hide b1
  clear hcs b1 hb1
  go_wp2_with fail
  refine (C.out _).mono ?_
  rintro e w2 ⟨⟨g2, rfl, b2⟩, hb2⟩
  have B2 := B1.trans (hb2.mono B1.size)
  have b1 := HB1.out.below hb2 HB1.out.lt
  have H1 := hide b1
  have H2 := hide b2
  have HB2 := hide B2
  clear b1 b2 hb2 m1 bx1 HB1 B1 B2
  go_wp2_with fail
  go_loopw [10] (ChkIn w2 (cIn s t f l p)) (fun i _ => 5 - (intOf i).toNat)
  case atStart => exact ⟨0, rfl, by omega, fun j h => absurd h (by omega), Below.refl _ _⟩
  case round =>
    obtain ⟨k, rfl, hk, hok, hb⟩ := hrel
    have HOK := hide hok
    clear hok
    by_cases hlt : k < 5
    · obtain ⟨x, hx⟩ := HCS.out k hlt
      obtain ⟨e0, e1, e2⟩ := bndA_at s t f l p hlt
      have b2 := H2.out.below hb H2.out.lt
      have b1 := H1.out.below hb H1.out.lt
      have z0 := (b2.cell (k * 3)).trans e0
      have z1 := (b2.cell (k * 3 + 1)).trans e1
      have z2 := (b2.cell (k * 3 + 2)).trans e2
      have z3 := (b1.cell k).trans hx
      have HI := hide (show cIn s t f l p k ↔ (cLo k ≤ cN s t f l p k ∧ cN s t f l p k ≤ cHi k) from Iff.rfl)
      have HN := hide (fun h => cfg_no (s := s) (t := t) (f := f) (l := l) (p := p) hlt h)
      have y1 := b1.lt
      clear e0 e1 e2 hx b1 b2
      generalize cN s t f l p k = n at *
      generalize cLo k = lo at *
      generalize cHi k = hi at *
      have hz := hb.size
      by_cases c1 : n < lo
      · have E := hide (HN.out (fun h => by have := HI.out.1 h; omega))
        go_wp2_with fail
        go_ret
        refine ⟨⟨_, rfl, ?_⟩, ?_⟩
        · rw [E.out]
          exact ⟨_, rfl⟩
        · have B9 := HB2.out.trans (hb.mono HB2.out.size)
          exact (B9.alloc B9.size _).alloc (by have := B9.size; simp only [World.size_alloc]; omega) _
      by_cases c2 : hi < n
      · have E := hide (HN.out (fun h => by have := HI.out.1 h; omega))
        go_wp2_with fail
        go_ret
        refine ⟨⟨_, rfl, ?_⟩, ?_⟩
        · rw [E.out]
          exact ⟨_, rfl⟩
        · have B9 := HB2.out.trans (hb.mono HB2.out.size)
          exact (B9.alloc B9.size _).alloc (by have := B9.size; simp only [World.size_alloc]; omega) _
      · have E := hide (HI.out.2 ⟨by omega, by omega⟩)
        go_wp2_with fail
        go_roundw
        case rel => exact ⟨k + 1, by go_num, by omega, fun j hj => by
          by_cases e : j = k
          · subst e
            exact E.out
          · exact HOK.out j (by omega), hb.alloc hz _⟩
        case measure => simp [intOf]; omega
    · obtain rfl : k = 5 := by omega
      have E := hide (cfg_all HOK.out)
      go_wp2_with fail
      go_ret
      exact ⟨⟨_, rfl, by rw [E.out]; rfl⟩, HB2.out.trans (hb.mono HB2.out.size)⟩

set_option maxHeartbeats 400000 in
theorem cright_any (s t f l p : Int) (w : World) (hT : Tab w) :
    Calls Tryz.prog 107 #[.agg #[.int .i64 s, .int .i64 t, .int .i64 f, .int .i64 l, .int .i64 p]] w fun e w' => e = .returned (.bool (cfgOk s t f l p)) ∧ Below w.heap.size w w' := by
  have C := hide (fun w2 (hb : Below w.heap.size w w2) => check_any s t f l p w2 (hT.below hb))
  generalize cfgOk s t f l p = ok at *
  cases ok
  · go_enter Tryz.func107, Tryz.ntmps107
    go_wp2_with fail
    have B0 := (Below.refl w.heap.size w).alloc (Nat.le_refl _) (.cells #[.int .i64 s, .int .i64 t, .int .i64 f, .int .i64 l, .int .i64 p] 23)
    refine (C.out _ B0).mono ?_
    rintro e w1 ⟨⟨v, rfl, a, rfl⟩, hb1⟩
    have B1 := B0.trans (hb1.mono B0.size)
    go_wp2_with fail
    go_ret
    exact ⟨rfl, B1⟩
  · go_enter Tryz.func107, Tryz.ntmps107
    go_wp2_with fail
    have B0 := (Below.refl w.heap.size w).alloc (Nat.le_refl _) (.cells #[.int .i64 s, .int .i64 t, .int .i64 f, .int .i64 l, .int .i64 p] 23)
    refine (C.out _ B0).mono ?_
    rintro e w1 ⟨⟨v, rfl, hv⟩, hb1⟩
    obtain rfl : v = .nilIface := hv
    have B1 := B0.trans (hb1.mono B0.size)
    go_wp2_with fail
    go_ret
    exact ⟨rfl, B1⟩
end Go.Proofs.YtlnckjemfabckaaGreatDoor

/-
  Package layout: New, Config, none, Size, At, What and the words of threads and slots.
-/
namespace Go.Proofs.YtlnckjemfabckaaGreatDoor
open Go.RowKit
attribute [local go_sem] past_cell past_cell_add

theorem ret_int {k : IntKind} {a b : Int} (h : a = b) : Ending.returned (.int k a) = .returned (.int k b) := by rw [h]
set_option maxHeartbeats 400000 in
theorem within_t (n m : Int) (w : World) (h0 : 0 ≤ n) (h1 : n < m) : Calls Tryz.prog 68 #[.int .i64 n, .int .i64 m] w fun e w' => e = .returned (.bool true) ∧ w = w' := by
  go_enter Tryz.func68, Tryz.ntmps68
  go_wp2_with fail
  go_ret
  exact ⟨rfl, rfl⟩
set_option maxHeartbeats 400000 in
theorem within_f (n m : Int) (w : World) (h : n < 0 ∨ m ≤ n) : Calls Tryz.prog 68 #[.int .i64 n, .int .i64 m] w fun e w' => e = .returned (.bool false) ∧ w = w' := by
  by_cases c1 : 0 ≤ n
  · have c2 : ¬ n < m := by omega
    clear h
    go_enter Tryz.func68, Tryz.ntmps68
    go_wp2_with fail
    go_ret
    exact ⟨rfl, rfl⟩
  · clear h
    go_enter Tryz.func68, Tryz.ntmps68
    go_wp2_with fail
    go_ret
    exact ⟨rfl, rfl⟩

/-- A layout's value. -/
def L5 (s t f l p : Int) : Value := .agg #[.int .i64 s, .int .i64 t, .int .i64 f, .int .i64 l, .int .i64 p]
set_option maxHeartbeats 400000 in
theorem none_no (s t f l p : Int) (w : World) (hs : 1 ≤ s) : Calls Tryz.prog 71 #[.agg #[.int .i64 s, .int .i64 t, .int .i64 f, .int .i64 l, .int .i64 p]] w fun e w' => e = .returned (.bool false) ∧ Below w.heap.size w w' := by
  have q : (s == 0) = false := by rw [beq_eq_false_iff_ne]; omega
  go_enter Tryz.func71, Tryz.ntmps71
  go_wp2_with fail
  go_ret
  exact ⟨rfl, (Below.refl _ _).alloc (Nat.le_refl _) _⟩
set_option maxHeartbeats 400000 in
theorem none_yes (w : World) : Calls Tryz.prog 71 #[.agg #[.int .i64 0, .int .i64 0, .int .i64 0, .int .i64 0, .int .i64 0]] w fun e w' => e = .returned (.bool true) ∧ Below w.heap.size w w' := by
  go_enter Tryz.func71, Tryz.ntmps71
  go_wp2_with fail
  go_ret
  exact ⟨rfl, (Below.refl _ _).alloc (Nat.le_refl _) _⟩
set_option maxHeartbeats 400000 in
theorem announces_any (s t f l p : Int) (w : World) : Calls Tryz.prog 72 #[.agg #[.int .i64 s, .int .i64 t, .int .i64 f, .int .i64 l, .int .i64 p]] w fun e w' => e = .returned (.int .i64 3) ∧ Below w.heap.size w w' := by
  go_enter Tryz.func72, Tryz.ntmps72
  go_wp2_with fail
  go_ret
  exact ⟨rfl, (Below.refl _ _).alloc (Nat.le_refl _) _⟩
set_option maxHeartbeats 400000 in
theorem width_any (s t f l p : Int) (w : World) (hf : 4 ≤ f ∧ f ≤ 64) : Calls Tryz.prog 96 #[.agg #[.int .i64 s, .int .i64 t, .int .i64 f, .int .i64 l, .int .i64 p]] w fun e w' => e = .returned (.int .i64 (3 + 2 * f)) ∧ Below w.heap.size w w' := by
  obtain ⟨h1, h2⟩ := hf
  go_enter Tryz.func96, Tryz.ntmps96
  go_wp2_with fail
  go_ret
  exact ⟨rfl, (Below.refl _ _).alloc (Nat.le_refl _) _⟩
set_option maxHeartbeats 1000000 in
theorem hazards_any (s t f l p : Int) (w : World) (ht : 1 ≤ t ∧ t ≤ 64) : Calls Tryz.prog 73 #[.agg #[.int .i64 s, .int .i64 t, .int .i64 f, .int .i64 l, .int .i64 p]] w fun e w' => e = .returned (.int .i64 (3 + t)) ∧ Below w.heap.size w w' := by
  obtain ⟨h1, h2⟩ := ht
  have h3 : IntKind.i64.wrap (3 + t) = 3 + t := IntWalk.i64_in _ (by omega)
  go_enter Tryz.func73, Tryz.ntmps73
  go_wp2_with fail
  have bx := Blk.new w 63 #[.int .i64 s, .int .i64 t, .int .i64 f, .int .i64 l, .int .i64 p]
  have lx := bx.lt
  have mx := fun i => bx.cell i
  have B0 := (Below.refl w.heap.size w).alloc (Nat.le_refl _) (.cells #[.int .i64 s, .int .i64 t, .int .i64 f, .int .i64 l, .int .i64 p] 63)
  generalize w.alloc (.cells #[.int .i64 s, .int .i64 t, .int .i64 f, .int .i64 l, .int .i64 p] 63) = w1 at *
  refine wp_region_past (by kernel_rfl) (by kernel_rfl) ?_
  repeat (quiet_step ((first | ((exact calls_past (announces_any _ _ _ _ _ _))))))
  refine wpQuiet_nil ?_
  intro _ hw'
  obtain ⟨y, hw''⟩ := hw'
  subst hw''
  have hy := past_below w1 y
  go_wp2_with fail
  go_ret
  exact ⟨rfl, B0.trans (hy.mono B0.size)⟩
set_option maxHeartbeats 1000000 in
theorem slots_any (s t f l p : Int) (w : World) (ht : 1 ≤ t ∧ t ≤ 64) : Calls Tryz.prog 95 #[.agg #[.int .i64 s, .int .i64 t, .int .i64 f, .int .i64 l, .int .i64 p]] w fun e w' => e = .returned (.int .i64 (3 + 3 * t)) ∧ Below w.heap.size w w' := by
  have H := hide (fun w => hazards_any s t f l p w ht)
  obtain ⟨h1, h2⟩ := ht
  have h4 : IntKind.i64.wrap (2 * t) = 2 * t := IntWalk.i64_in _ (by omega)
  have h3 : IntKind.i64.wrap (3 + t + 2 * t) = 3 + 3 * t := by rw [IntWalk.i64_in _ (by omega)]; omega
  go_enter Tryz.func95, Tryz.ntmps95
  go_wp2_with fail
  have bx := Blk.new w 63 #[.int .i64 s, .int .i64 t, .int .i64 f, .int .i64 l, .int .i64 p]
  have lx := bx.lt
  have mx := fun i => bx.cell i
  have B0 := (Below.refl w.heap.size w).alloc (Nat.le_refl _) (.cells #[.int .i64 s, .int .i64 t, .int .i64 f, .int .i64 l, .int .i64 p] 63)
  generalize w.alloc (.cells #[.int .i64 s, .int .i64 t, .int .i64 f, .int .i64 l, .int .i64 p] 63) = w1 at *
  refine wp_region_past (by kernel_rfl) (by kernel_rfl) ?_
  repeat (quiet_step ((first | ((exact calls_past (H.out _))))))
  refine wpQuiet_nil ?_
  intro _ hw'
  obtain ⟨y, hw''⟩ := hw'
  subst hw''
  have hy := past_below w1 y
  go_wp2_with fail
  go_ret
  exact ⟨rfl, B0.trans (hy.mono B0.size)⟩
set_option maxHeartbeats 1000000 in
theorem size_any (s t f l p : Int) (w : World) (hs : 1 ≤ s ∧ s ≤ 1000) (ht : 1 ≤ t ∧ t ≤ 64) (hf : 4 ≤ f ∧ f ≤ 64) : Calls Tryz.prog 54 #[.agg #[.int .i64 s, .int .i64 t, .int .i64 f, .int .i64 l, .int .i64 p]] w fun e w' => e = .returned (.int .i64 (laySize s t f)) ∧ Below w.heap.size w w' := by
  have N := hide (fun w => none_no s t f l p w hs.1)
  have H := hide (fun w => slots_any s t f l p w ht)
  have W := hide (fun w => width_any s t f l p w hf)
  have z := size_pos hs ht hf
  have h3 : IntKind.i64.wrap (s + 1) = s + 1 := IntWalk.i64_in _ (by omega)
  have h4 : IntKind.i64.wrap ((s + 1) * (3 + 2 * f)) = (s + 1) * (3 + 2 * f) := IntWalk.i64_in _ (by unfold laySize at z; omega)
  have h5 : IntKind.i64.wrap (3 + 3 * t + (s + 1) * (3 + 2 * f)) = laySize s t f := by unfold laySize at z ⊢; exact IntWalk.i64_in _ (by omega)
  clear z
  generalize laySize s t f = R at *
  go_enter Tryz.func54, Tryz.ntmps54
  go_wp2_with fail
  have bx := Blk.new w 63 #[.int .i64 s, .int .i64 t, .int .i64 f, .int .i64 l, .int .i64 p]
  have B0 := (Below.refl w.heap.size w).alloc (Nat.le_refl _) (.cells #[.int .i64 s, .int .i64 t, .int .i64 f, .int .i64 l, .int .i64 p] 63)
  refine (N.out _).mono ?_
  rintro e w1 ⟨rfl, hb1⟩
  replace bx := bx.below hb1 bx.lt
  replace B0 := B0.trans (hb1.mono B0.size)
  clear hb1
  have lx := bx.lt
  have mx := fun i => bx.cell i
  go_wp2_with fail
  refine wp_region_past (by kernel_rfl) (by kernel_rfl) ?_
  repeat (quiet_step ((first | ((first | (go_at_call 95; exact calls_past (H.out _)) | (go_at_call 96; exact calls_past (W.out _)))))))
  refine wpQuiet_nil ?_
  intro _ hw'
  obtain ⟨y, hw''⟩ := hw'
  subst hw''
  have hy := past_below w1 y
  go_wp2_with fail
  go_ret
  exact ⟨rfl, B0.trans (hy.mono B0.size)⟩
set_option maxHeartbeats 400000 in
theorem size_zero (w : World) : Calls Tryz.prog 54 #[.agg #[.int .i64 0, .int .i64 0, .int .i64 0, .int .i64 0, .int .i64 0]] w fun e w' => e = .returned (.int .i64 0) ∧ Below w.heap.size w w' := by
  have N := hide none_yes
  go_enter Tryz.func54, Tryz.ntmps54
  go_wp2_with fail
  have B0 := (Below.refl w.heap.size w).alloc (Nat.le_refl _) (.cells #[.int .i64 0, .int .i64 0, .int .i64 0, .int .i64 0, .int .i64 0] 63)
  refine (N.out _).mono ?_
  rintro e w1 ⟨rfl, hb1⟩
  go_wp2_with fail
  go_ret
  exact ⟨rfl, B0.trans (hb1.mono B0.size)⟩
set_option maxHeartbeats 400000 in
theorem lconfig_any (s t f l p : Int) (w : World) : Calls Tryz.prog 78 #[.agg #[.int .i64 s, .int .i64 t, .int .i64 f, .int .i64 l, .int .i64 p]] w fun e w' => e = .returned (.agg #[.int .i64 s, .int .i64 t, .int .i64 f, .int .i64 l, .int .i64 p]) ∧ Below w.heap.size w w' := by
  go_enter Tryz.func78, Tryz.ntmps78
  go_wp2_with fail
  refine bodyPost_ret (v := .agg #[.int .i64 s, .int .i64 t, .int .i64 f, .int .i64 l, .int .i64 p]) (by simp [results, Tryz.results78, go_sem]) rfl ⟨rfl, ?_⟩
  exact ((Below.refl _ _).alloc (Nat.le_refl _) _).alloc (by simp only [World.size_alloc]; omega) _
set_option maxHeartbeats 1000000 in
theorem new_yes (s t f l p : Int) (w : World) (hT : Tab w) (h : cfgOk s t f l p = true) : Calls Tryz.prog 67 #[.agg #[.int .i64 s, .int .i64 t, .int .i64 f, .int .i64 l, .int .i64 p]] w fun e w' => e = .returned (.agg #[.int .i64 s, .int .i64 t, .int .i64 f, .int .i64 l, .int .i64 p]) ∧ Below w.heap.size w w' := by
  have R := hide (fun w2 (hb : Below w.heap.size w w2) => cright_any s t f l p w2 (hT.below hb))
  rw [h] at R
  clear h
  go_enter Tryz.func67, Tryz.ntmps67
  go_wp2_with fail
  have bx := Blk.new w 23 #[.int .i64 s, .int .i64 t, .int .i64 f, .int .i64 l, .int .i64 p]
  have B0 := (Below.refl w.heap.size w).alloc (Nat.le_refl _) (.cells #[.int .i64 s, .int .i64 t, .int .i64 f, .int .i64 l, .int .i64 p] 23)
  have bo := Blk.new (w.alloc (.cells #[.int .i64 s, .int .i64 t, .int .i64 f, .int .i64 l, .int .i64 p] 23)) 63 #[.int .i64 0, .int .i64 0, .int .i64 0, .int .i64 0, .int .i64 0]
  replace bx := bx.alloc (.cells #[.int .i64 0, .int .i64 0, .int .i64 0, .int .i64 0, .int .i64 0] 63)
  replace B0 := B0.alloc B0.size (.cells #[.int .i64 0, .int .i64 0, .int .i64 0, .int .i64 0, .int .i64 0] 63)
  rw [World.size_alloc] at bo
  refine (R.out _ B0).mono ?_
  rintro e w1 ⟨rfl, hb1⟩
  replace bx := bx.below hb1 bx.lt
  replace bo := bo.below hb1 bo.lt
  replace B0 := B0.trans (hb1.mono B0.size)
  clear hb1
  have mx := fun i => bx.cell i
  have mo := fun i => bo.cell i
  have zo := fun i => bo.frozen i
  go_wp2_with fail
  have b9 := ((((bo.set_ 0 (.int .i64 s)).set_ 1 (.int .i64 t)).set_ 2 (.int .i64 f)).set_ 3 (.int .i64 l)).set_ 4 (.int .i64 p)
  simp only [List.setIfInBounds_toArray, List.set_cons_zero, List.set_cons_succ] at b9
  have B9 := ((((B0.setCell (p := ⟨w.heap.size + 1, 0, none⟩) (by show w.heap.size ≤ w.heap.size + 1; omega) (.int .i64 s)).setCell (p := ⟨w.heap.size + 1, 1, none⟩) (by show w.heap.size ≤ w.heap.size + 1; omega) (.int .i64 t)).setCell (p := ⟨w.heap.size + 1, 2, none⟩) (by show w.heap.size ≤ w.heap.size + 1; omega) (.int .i64 f)).setCell (p := ⟨w.heap.size + 1, 3, none⟩) (by show w.heap.size ≤ w.heap.size + 1; omega) (.int .i64 l)).setCell (p := ⟨w.heap.size + 1, 4, none⟩) (by show w.heap.size ≤ w.heap.size + 1; omega) (.int .i64 p)
  have m9 := fun i => b9.cell i
  refine bodyPost_ret (v := .agg #[.int .i64 s, .int .i64 t, .int .i64 f, .int .i64 l, .int .i64 p]) (by simp [results, Tryz.results67, go_sem, m9]) rfl ⟨rfl, B9⟩
set_option maxHeartbeats 1000000 in
theorem new_no (s t f l p : Int) (w : World) (hT : Tab w) (h : cfgOk s t f l p = false) : Calls Tryz.prog 67 #[.agg #[.int .i64 s, .int .i64 t, .int .i64 f, .int .i64 l, .int .i64 p]] w fun e w' => e = .returned (.agg #[.int .i64 0, .int .i64 0, .int .i64 0, .int .i64 0, .int .i64 0]) ∧ Below w.heap.size w w' := by
  have R := hide (fun w2 (hb : Below w.heap.size w w2) => cright_any s t f l p w2 (hT.below hb))
  rw [h] at R
  clear h
  go_enter Tryz.func67, Tryz.ntmps67
  go_wp2_with fail
  have bx := Blk.new w 23 #[.int .i64 s, .int .i64 t, .int .i64 f, .int .i64 l, .int .i64 p]
  have B0 := (Below.refl w.heap.size w).alloc (Nat.le_refl _) (.cells #[.int .i64 s, .int .i64 t, .int .i64 f, .int .i64 l, .int .i64 p] 23)
  have bo := Blk.new (w.alloc (.cells #[.int .i64 s, .int .i64 t, .int .i64 f, .int .i64 l, .int .i64 p] 23)) 63 #[.int .i64 0, .int .i64 0, .int .i64 0, .int .i64 0, .int .i64 0]
  replace bx := bx.alloc (.cells #[.int .i64 0, .int .i64 0, .int .i64 0, .int .i64 0, .int .i64 0] 63)
  replace B0 := B0.alloc B0.size (.cells #[.int .i64 0, .int .i64 0, .int .i64 0, .int .i64 0, .int .i64 0] 63)
  rw [World.size_alloc] at bo
  refine (R.out _ B0).mono ?_
  rintro e w1 ⟨rfl, hb1⟩
  replace bx := bx.below hb1 bx.lt
  replace bo := bo.below hb1 bo.lt
  replace B0 := B0.trans (hb1.mono B0.size)
  clear hb1
  have mx := fun i => bx.cell i
  have mo := fun i => bo.cell i
  have zo := fun i => bo.frozen i
  go_wp2_with fail
  have b9 := ((((bo.set_ 0 (.int .i64 0)).set_ 1 (.int .i64 0)).set_ 2 (.int .i64 0)).set_ 3 (.int .i64 0)).set_ 4 (.int .i64 0)
  simp only [List.setIfInBounds_toArray, List.set_cons_zero, List.set_cons_succ] at b9
  have B9 := ((((B0.setCell (p := ⟨w.heap.size + 1, 0, none⟩) (by show w.heap.size ≤ w.heap.size + 1; omega) (.int .i64 0)).setCell (p := ⟨w.heap.size + 1, 1, none⟩) (by show w.heap.size ≤ w.heap.size + 1; omega) (.int .i64 0)).setCell (p := ⟨w.heap.size + 1, 2, none⟩) (by show w.heap.size ≤ w.heap.size + 1; omega) (.int .i64 0)).setCell (p := ⟨w.heap.size + 1, 3, none⟩) (by show w.heap.size ≤ w.heap.size + 1; omega) (.int .i64 0)).setCell (p := ⟨w.heap.size + 1, 4, none⟩) (by show w.heap.size ≤ w.heap.size + 1; omega) (.int .i64 0)
  have m9 := fun i => b9.cell i
  refine bodyPost_ret (v := .agg #[.int .i64 0, .int .i64 0, .int .i64 0, .int .i64 0, .int .i64 0]) (by simp [results, Tryz.results67, go_sem, m9]) rfl ⟨rfl, B9⟩
end Go.Proofs.YtlnckjemfabckaaGreatDoor

