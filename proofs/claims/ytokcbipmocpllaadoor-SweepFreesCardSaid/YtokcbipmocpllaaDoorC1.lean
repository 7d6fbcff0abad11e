/-
  Regions that draw their order and hold calls which only make memory: one walk in the order of the text serves every order.
-/
import Derived.Test.YtokcbipmocpllaaDoorRows
import Derived.WalkKit
import Derived.Deep.QuietTactic
import Derived.BigQuiet
import Derived.Deep.AppendLies
import Derived.Deep.Draws
import Derived.Laws.OwnMore
import Derived.Laws.Rows
import Derived.Maps.AppendAt
import Derived.RegionTactic
import Derived.OwnWalk
import Derived.WalkSpells
import Derived.WalkLawsBesides
import Derived.Deep.RegionLaw
import Derived.Deep.RegionHeld3
import Derived.Laws.BitsAllLaws
import Derived.Laws.BitsLemmas
import Derived.Deep.LoopGhost
import Derived.Deep.RegionWith
import Derived.Lib.SliceRun
import Derived.Lib.AppendZeros
import Derived.Test.YtokcbipmocpllaaDoorTie
import Derived.Test.YtokcbipmocpllaaDoorCards
import Derived.ProofKit
import Derived.LaidMore
import Derived.OpenShut
import Derived.Stop.Joined
import Derived.SevenTiedAt
import Derived.Lib.LaidTab
import Derived.Lib.Fields
import Derived.Lib.FieldsLaws
import Derived.Lib.SplitLaws
import Derived.Lib.Walk
import Derived.Laws.Strings3
import Derived.Deep.OwnRows
import Derived.Deep.CutBlock
namespace Go.Proofs.YtokcbipmocpllaaDoor
open Go.RowKit

/-- The worlds that lie behind w: what w held below its heap's end is as it was. -/
def Bel (w : World) : Type := { w' : World // Below w.heap.size w w' }
def past (w : World) (x : Bel w) : World := x.1
instance (w : World) : Nonempty (Bel w) := ⟨⟨w, Below.refl _ _⟩⟩

theorem past_below (w : World) (x : Bel w) : Below w.heap.size w (past w x) := x.2
theorem past_cell {w : World} {x : Bel w} {b o : Nat} (h : b < w.heap.size) : (past w x).cell? ⟨b, o, none⟩ = w.cell? ⟨b, o, none⟩ := (past_below w x).cell (p := ⟨b, o, none⟩) h
theorem past_cell_add {w : World} {x : Bel w} {a : Addr} {n : Nat} (h : a.block < w.heap.size) : (past w x).cell? (a.add n) = w.cell? (a.add n) :=
  (past_below w x).cell (p := a.add n) (by unfold Addr.add; split <;> exact h)

section
variable {P : Program}
theorem calls_past {f : FuncId} {args : Array Value} {w : World} {x : Bel w} {v : Value}
    (h : Calls P f args (past w x) fun e w'' => e = .returned v ∧ Below (past w x).heap.size (past w x) w'') :
    Calls P f args (past w x) fun e w'' => e = .returned v ∧ ∃ y : Bel w, w'' = past w y :=
  h.mono fun _ w'' ⟨he, hb⟩ => ⟨he, ⟨w'', (past_below w x).trans (hb.mono (past_below w x).size)⟩, rfl⟩
theorem calls_past_same {f : FuncId} {args : Array Value} {w : World} {x : Bel w} {v : Value}
    (h : Calls P f args (past w x) fun e w'' => e = .returned v ∧ past w x = w'') :
    Calls P f args (past w x) fun e w'' => e = .returned v ∧ ∃ y : Bel w, w'' = past w y :=
  h.mono fun _ _ ⟨he, hb⟩ => ⟨he, x, hb.symm⟩

theorem wp_region_past {id : Nat} {Q : Exit → Act → World → Prop} {a : Act} {w : World} {l : List Oper} (hm : P.follows .mixedOrders = true) (hB : Region.lexB .any l.toArray = true)
    (h : wpQuiet P l.toArray (fun w' => ∃ x : Bel w, w' = past w x) (fun a' => ∀ w', (∃ x : Bel w, w' = past w x) → Q .normal a' w') l a) : (Code.region id l.toArray true).wp P Q a w :=
  wp_region_quiet (C := fun w' => ∃ x : Bel w, w' = past w x) hm hB ⟨⟨w.drew, (Below.refl _ _).drew⟩, rfl⟩ (by simpa using h)
end
end Go.Proofs.YtokcbipmocpllaaDoor

/-
  Words for memory: a slice that reads as a list of cells; a block that is known whole; append onto a row of the call's own.
-/
namespace Go.Proofs.YtokcbipmocpllaaDoor
open Go.RowKit

/-- A fact kept from the walk's simp; '.out' gives it back. -/
theorem hide {p : Prop} (h : p) : Hid p := h
theorem unhide {p : Prop} (h : Hid p) : p := h

theorem below_drewN {B : Nat} {a w : World} (h : Below B a w) (n : Nat) : Below B a (w.drewN n) := ⟨h.os, h.tape, h.output, h.size, h.block⟩

theorem quiet_left {P : Program} {f : FuncId} {args : Array Value} {w : World} {n : Nat} {v : Value}
    (h : Calls P f args (w.drewN n) fun e w' => e = .returned v ∧ w.drewN n = w') : Calls P f args (w.drewN n) fun e w'' => e = .returned v ∧ ∃ m, w'' = w.drewN m :=
  h.mono fun _ _ ⟨he, hm⟩ => ⟨he, n, hm.symm⟩
theorem keepCell {w w' : World} (hb : Below w.heap.size w w') {a : Addr} {v : Value} (h : w.cell? a = some v) : w'.cell? a = some v := (hb.cell (World.block_lt_of_cell? w a h)).trans h

/-- A function value whose function is known is entered. -/
theorem run_enter {P : Program} {f : FuncId} {fn : Func} (hf : P.funcs[f]? = some fn) (hname : fn.name ≠ "runtime.NumGoroutine") (hb : fn.body ≠ none) (args : Array Value) (w : World) :
    (callFunc f args).run P w = .ok (.enter f args) w := by
  simp [callFunc, hf, hname, hb, go_sem]

theorem bcell {W w1 : World} (hb : Below W.heap.size W w1) : (∀ b o, b < W.heap.size → w1.cell? ⟨b, o, none⟩ = W.cell? ⟨b, o, none⟩) ∧ (∀ b o, b < W.heap.size → w1.frozen? ⟨b, o, none⟩ = W.frozen? ⟨b, o, none⟩) :=
  ⟨fun b o h => hb.cell (p := ⟨b, o, none⟩) h, fun b o h => hb.frozen (p := ⟨b, o, none⟩) h⟩

theorem block_of_add (a : Addr) (n : Nat) : (a.add n).block = a.block := by unfold Addr.add; split <;> rfl
theorem add_of_add (a : Addr) (i j : Nat) : (a.add i).add j = a.add (i + j) := by
  unfold Addr.add
  by_cases hi : i = 0 <;> by_cases hj : j = 0 <;> simp [hi, hj, Nat.add_assoc]

def Reads (w : World) (B size : Nat) (A : Option Addr) (n : Nat) (xs : List Value) : Prop :=
  xs.length = n * size ∧ (0 < n → ∃ ad, A = some ad ∧ ad.block < B ∧ ∀ j u, xs[j]? = some u → w.cell? (ad.add j) = some u)

section
variable {w w' : World} {B B' size n : Nat} {A : Option Addr} {xs : List Value}
theorem Reads.none_ : Reads w B size A 0 [] := ⟨by simp, fun h => absurd h (by omega)⟩
theorem Reads.at_ {k : Nat} (h : Reads w B 1 A n xs) (hk : k < n) : ∃ ad u, A = some ad ∧ ad.block < B ∧ xs[k]? = some u ∧ w.cell? (ad.add k) = some u := by
  obtain ⟨ad, e, hb, hc⟩ := h.2 (by omega)
  have hl : k < xs.length := by have := h.1; omega
  exact ⟨ad, xs[k], e, hb, List.getElem?_eq_getElem hl, hc k _ (List.getElem?_eq_getElem hl)⟩
theorem Reads.keep (h : Reads w B size A n xs) (hk : ∀ p : Addr, p.block < B → w'.cell? p = w.cell? p) : Reads w' B size A n xs :=
  ⟨h.1, fun hn => by
    obtain ⟨ad, e, hb, hc⟩ := h.2 hn
    exact ⟨ad, e, hb, fun j u hu => (hk _ (by rw [block_of_add]; exact hb)).trans (hc j u hu)⟩⟩
theorem Reads.more (h : Reads w B size A n xs) (hB : B ≤ B') : Reads w B' size A n xs :=
  ⟨h.1, fun hn => by
    obtain ⟨ad, e, hb, hc⟩ := h.2 hn
    exact ⟨ad, e, by omega, hc⟩⟩
theorem Reads.below (h : Reads w B size A n xs) (hb : Below B w w') : Reads w' B size A n xs := h.keep fun _ hp => hb.cell hp
theorem Reads.drew (h : Reads w B size A n xs) : Reads w.drew B size A n xs := h
theorem Reads.drewN (h : Reads w B size A n xs) (k : Nat) : Reads (w.drewN k) B size A n xs := h
theorem Reads.alloc (h : Reads w B size A n xs) (hB : B ≤ w.heap.size) (o : Obj) : Reads (w.alloc o) B size A n xs := h.keep fun p hp => World.cell?_alloc_lt w o p (by omega)
theorem Reads.setCell (h : Reads w B size A n xs) {p : Addr} (hB : B ≤ p.block) (u : Value) : Reads (w.setCell p u) B size A n xs :=
  h.keep fun q hq => World.cell?_setCell_other w p q u (fun e => by subst e; omega)
theorem Reads.grown (h : Reads w B size A n xs) {row : Option Nat} (hg : w.grownBy w' row) (hB : B ≤ w.heap.size) (hr : ∀ g, row = some g → B ≤ g) : Reads w' B size A n xs :=
  h.keep fun p hp => World.cell?_of_block (hg.block p.block (by omega) (fun e => by have := hr _ e.symm; omega))
theorem Reads.cut (h : Reads w B size A n xs) {k cap : Nat} (hk : k ≤ n) (hc : n ≤ cap) :
    Reads w B size (if cap = k then A else A.map (·.add (k * size))) (n - k) (xs.drop (k * size)) := by
  refine ⟨by rw [List.length_drop, h.1, Nat.sub_mul], fun hn => ?_⟩
  obtain ⟨ad, rfl, hb, hcell⟩ := h.2 (by omega)
  rw [if_neg (by omega)]
  refine ⟨ad.add (k * size), rfl, by rw [block_of_add]; exact hb, fun j u hu => ?_⟩
  rw [add_of_add]
  exact hcell _ u (by rw [← hu, List.getElem?_drop])
theorem Reads.of_own {base : Nat} {e : TypeId} {c : Nat} (h : w.ownsRow base e size (.slice A n c) n xs) : Reads w w.heap.size size A n xs := by
  refine ⟨h.1, fun hn => ?_⟩
  obtain ⟨g, cap, hv, _, hlt⟩ := h.form hn
  have hA : A = some ⟨g, 0, none⟩ := by injection hv
  subst hA
  exact ⟨_, rfl, hlt, h.cells (g := g) rfl⟩
end

def Blk (w : World) (g : Nat) (t : TypeId) (cs : Array Value) : Prop := w.heap[g]? = some (.cells cs t (0, 0))

section
variable {w w' : World} {g : Nat} {t : TypeId} {cs : Array Value}
theorem Blk.lt (h : Blk w g t cs) : g < w.heap.size := by
  rcases Nat.lt_or_ge g w.heap.size with hlt | hge
  · exact hlt
  · unfold Blk at h; rw [Array.getElem?_eq_none hge] at h; cases h
theorem Blk.cell (h : Blk w g t cs) (i : Nat) : w.cell? ⟨g, i, none⟩ = cs[i]? := cell_of_row w g i cs t (0, 0) h
theorem Blk.frozen (h : Blk w g t cs) (i : Nat) : w.frozen? ⟨g, i, none⟩ = false := by
  unfold Blk at h
  simp [World.frozen?, h]
theorem Blk.new (w : World) (t : TypeId) (cs : Array Value) : Blk (w.alloc (.cells cs t)) w.heap.size t cs := heap_alloc_new w _
theorem Blk.drew (h : Blk w g t cs) : Blk w.drew g t cs := h
theorem Blk.drewN (h : Blk w g t cs) (n : Nat) : Blk (w.drewN n) g t cs := h
theorem Blk.alloc (h : Blk w g t cs) (o : Obj) : Blk (w.alloc o) g t cs := (Below.heap_alloc w o g h.lt).trans h
theorem Blk.set_ (h : Blk w g t cs) (i : Nat) (u : Value) : Blk (w.setCell ⟨g, i, none⟩ u) g t (cs.setIfInBounds i u) := by
  unfold Blk at h ⊢
  simp [World.setCell, Array.getElem?_modify, h]
theorem Blk.far (h : Blk w g t cs) {p : Addr} (hp : g ≠ p.block) (u : Value) : Blk (w.setCell p u) g t cs := (Below.heap_setCell w p u g hp).trans h
theorem Blk.below {B : Nat} (h : Blk w g t cs) (hb : Below B w w') (hg : g < B) : Blk w' g t cs := (hb.block g hg).trans h
theorem Blk.grown {row : Option Nat} (h : Blk w g t cs) (hb : w.grownBy w' row) (hg : some g ≠ row) : Blk w' g t cs := (hb.block g h.lt hg).trans h
theorem Blk.ne_ {g' : Nat} {t' : TypeId} {cs' : Array Value} (h : Blk w g t cs) (h' : Blk w g' t' cs') (hne : t ≠ t') : g ≠ g' := by
  rintro rfl
  unfold Blk at h h'
  rw [h] at h'
  injection h' with h'
  injection h' with _ ht
  exact hne ht
theorem own_blk_ne {base : Nat} {e : TypeId} {size n : Nat} {v : Value} {xs : List Value} (h : w.ownsRow base e size v n xs) (hg : Blk w g t cs) (hne : e ≠ t) : v.ownBlock ≠ some g := by
  rcases h.2 with ⟨rfl, _⟩ | ⟨g', cap, cur, rfl, _, hh, _⟩
  · simp [Value.ownBlock]
  · intro he
    have : g' = g := by simpa [Value.ownBlock] using he
    subst this
    exact Blk.ne_ (t := e) hh hg hne rfl
end

section
variable {P : Program} (w : World)

theorem run_append_of_nil (base : Nat) (t ty e : TypeId) (i : TypeInfo) (size : Nat) (ht : P.underlying t = some (.slice e)) (hi : P.info? e = some i)
    (v : Value) (n : Nat) (xs : List Value) (hown : w.ownsRow base e size v n xs) (c : Nat) : (Builtin.append_ #[t, t] ty #[v, .slice none 0 c]).run P w = .ok v w := by
  rcases hown.2 with ⟨rfl, rfl⟩ | ⟨g, cap, cur, rfl, _, _, hnc, _⟩
  · simp [Builtin.append_, run_underlying ht, sizeOf, typeInfo, hi, Builtin.lenOf, Builtin.firstCells]
  · simp [Builtin.append_, run_underlying ht, sizeOf, typeInfo, hi, Builtin.lenOf, Builtin.firstCells, hnc, storeCells]

theorem run_append_any (base : Nat) (t ty e : TypeId) (i : TypeInfo) (z : Value) (size bytes : Nat) (ht : P.underlying t = some (.slice e)) (hi : P.info? e = some i) (hz : i.zero = some z)
    (hsize : i.size = size) (hby : i.bytes = bytes) (hzs : z.cells.size = size) (hsz : 0 < size)
    (v : Value) (n : Nat) (xs : List Value) (hown : w.ownsRow base e size v n xs)
    (B : Nat) (A : Option Addr) (m c : Nat) (news : List Value) (hr : Reads w B size A m news) (h1 : ∀ u ∈ news, u.oneCell' = true)
    (h63 : n + m ≤ maxLen) (hbytes : (n + m) * bytes ≤ 140737488355328) (hbase : base ≤ w.heap.size) :
    ∃ v' w', (Builtin.append_ #[t, t] ty #[v, .slice A m c]).run P w = .ok v' w' ∧ w'.ownsRow base e size v' (n + m) (xs ++ news) ∧ w.grownBy w' v.ownBlock ∧
      (v'.ownBlock = v.ownBlock ∨ v'.ownBlock = some w.heap.size) := by
  rcases A with _ | ad
  · have hm : m = 0 := by
      rcases Nat.eq_zero_or_pos m with h0 | h0
      · exact h0
      · obtain ⟨ad, h, _⟩ := hr.2 h0
        cases h
    subst hm
    have hn : news = [] := List.eq_nil_of_length_eq_zero (by simpa using hr.1)
    subst hn
    exact ⟨v, w, run_append_of_nil w base t ty e i size ht hi v n xs hown c, by simpa using hown, World.grownBy.refl w _, .inl rfl⟩
  · have hcells : ∀ j u, news[j]? = some u → w.cell? (ad.add j) = some u := by
      intro j u hu
      rcases Nat.eq_zero_or_pos m with h0 | h0
      · subst h0
        have hn : news = [] := List.eq_nil_of_length_eq_zero (by simpa using hr.1)
        subst hn
        simp at hu
      · obtain ⟨ad', h, _, hc⟩ := hr.2 h0
        injection h with h
        subst h
        exact hc j u hu
    obtain ⟨v', w', hrun, h2, h3, _, h5⟩ := run_append_own_at (P := P) w base t ty e i z size bytes ht hi hz hsize hby hzs hsz v n xs hown ad m c news hr.1 hcells h1 h63 hbytes hbase
    exact ⟨v', w', hrun, h2, h3, h5⟩

theorem wp_append_any {o : Oper} {a : Act} {K : Act → World → Prop} {Q : Exit → Act → World → Prop} (s x : Operand) (t : TypeId)
    (ho : o.op = .call { callee := .builtin .append, args := #[s, x], argTypes := #[t, t] })
    (base : Nat) (e : TypeId) (i : TypeInfo) (z : Value) (size bytes : Nat) (ht : P.underlying t = some (.slice e)) (hi : P.info? e = some i) (hz : i.zero = some z)
    (hsize : i.size = size) (hby : i.bytes = bytes) (hzs : z.cells.size = size) (hsz : 0 < size)
    (v : Value) (n : Nat) (xs : List Value) (hs : a.eval s = v) (hown : w.ownsRow base e size v n xs)
    (B : Nat) (A : Option Addr) (m c : Nat) (news : List Value) (hx : a.eval x = .slice A m c) (hr : Reads w B size A m news) (h1 : ∀ u ∈ news, u.oneCell' = true)
    (h63 : n + m ≤ maxLen) (hbytes : (n + m) * bytes ≤ 140737488355328) (hbase : base ≤ w.heap.size)
    (h : ∀ v' w', w'.ownsRow base e size v' (n + m) (xs ++ news) → w.grownBy w' v.ownBlock → (v'.ownBlock = v.ownBlock ∨ v'.ownBlock = some w.heap.size) → K (a.put o.dst v') w') : o.wp P a w K Q := by
  obtain ⟨v', w', hrun, h2, h3, h4⟩ := run_append_any (P := P) w base t o.type e i z size bytes ht hi hz hsize hby hzs hsz v n xs hown B A m c news hr h1 h63 hbytes hbase
  unfold Oper.wp execOp
  simp only [ho, resolve, invoke, builtin, Sem.run_bind, Sem.run_pure, Result.andThen_ok, List.map_toArray, List.map_cons, List.map_nil, hs, hx, hrun]
  exact h v' w' h2 h3 h4

theorem wpList_append_any {ops : Array Oper} {rest : List Oper} {o : Oper} {a : Act} {Q : Exit → Act → World → Prop} (hgd : o.guard = none) (s x : Operand) (t : TypeId)
    (ho : o.op = .call { callee := .builtin .append, args := #[s, x], argTypes := #[t, t] })
    (base : Nat) (e : TypeId) (i : TypeInfo) (z : Value) (size bytes : Nat) (ht : P.underlying t = some (.slice e)) (hi : P.info? e = some i) (hz : i.zero = some z)
    (hsize : i.size = size) (hby : i.bytes = bytes) (hzs : z.cells.size = size) (hsz : 0 < size)
    (v : Value) (n : Nat) (xs : List Value) (hs : a.eval s = v) (hown : w.ownsRow base e size v n xs)
    (B : Nat) (A : Option Addr) (m c : Nat) (news : List Value) (hx : a.eval x = .slice A m c) (hr : Reads w B size A m news) (h1 : ∀ u ∈ news, u.oneCell' = true)
    (h63 : n + m ≤ maxLen) (hbytes : (n + m) * bytes ≤ 140737488355328) (hbase : base ≤ w.heap.size)
    (h : ∀ v' w', w'.ownsRow base e size v' (n + m) (xs ++ news) → w.grownBy w' v.ownBlock → (v'.ownBlock = v.ownBlock ∨ v'.ownBlock = some w.heap.size) → wpList P ops Q rest (a.put o.dst v') w') : wpList P ops Q (o :: rest) a w :=
  wpList_plain hgd fun _ hK => wp_append_any w s x t ho base e i z size bytes ht hi hz hsize hby hzs hsz v n xs hs hown B A m c news hx hr h1 h63 hbytes hbase fun v' w' h2 h3 h4 => hK _ _ (h v' w' h2 h3 h4)

theorem step_append_any {ops : Array Oper} {o : Oper} {a : Act} {K : Act → World → Prop} {Q : Exit → Act → World → Prop} {E : Prop} (hgd : o.guard = none) (s x : Operand) (t : TypeId)
    (ho : o.op = .call { callee := .builtin .append, args := #[s, x], argTypes := #[t, t] })
    (base : Nat) (e : TypeId) (i : TypeInfo) (z : Value) (size bytes : Nat) (ht : P.underlying t = some (.slice e)) (hi : P.info? e = some i) (hz : i.zero = some z)
    (hsize : i.size = size) (hby : i.bytes = bytes) (hzs : z.cells.size = size) (hsz : 0 < size)
    (v : Value) (n : Nat) (xs : List Value) (hs : a.eval s = v) (hown : w.ownsRow base e size v n xs)
    (B : Nat) (A : Option Addr) (m c : Nat) (news : List Value) (hx : a.eval x = .slice A m c) (hr : Reads w B size A m news) (h1 : ∀ u ∈ news, u.oneCell' = true)
    (h63 : n + m ≤ maxLen) (hbytes : (n + m) * bytes ≤ 140737488355328) (hbase : base ≤ w.heap.size)
    (h : ∀ v' w', w'.ownsRow base e size v' (n + m) (xs ++ news) → w.grownBy w' v.ownBlock → (v'.ownBlock = v.ownBlock ∨ v'.ownBlock = some w.heap.size) → K (a.put o.dst v') w') :
    if Region.wanted o (yielded ops a.tmps) = true then Oper.wp P o a w K Q else E := by
  have hw : Region.wanted o (yielded ops a.tmps) = true := by simp [Region.wanted, hgd]
  rw [if_pos hw]
  exact wp_append_any w s x t ho base e i z size bytes ht hi hz hsize hby hzs hsz v n xs hs hown B A m c news hx hr h1 h63 hbytes hbase h
end

theorem Reads.new (w : World) (cs : List Value) (t : TypeId) (n s : Nat) (h : cs.length = n * s) : Reads (w.alloc (.cells cs.toArray t)) (w.heap.size + 1) s (some ⟨w.heap.size, 0, none⟩) n cs := by
  refine ⟨h, fun _ => ⟨_, rfl, by simp, fun j u hu => ?_⟩⟩
  rw [Addr.add_lit]
  have := cell_of_row (w.alloc (.cells cs.toArray t)) w.heap.size j cs.toArray t (0, 0) (heap_alloc_new w _)
  simp [this, hu]

theorem Reads.blk {w : World} {g : Nat} {t : TypeId} {cs : Array Value} (h : Blk w g t cs) (n s : Nat) (hn : cs.size = n * s) : Reads w (g + 1) s (some ⟨g, 0, none⟩) n cs.toList := by
  refine ⟨by simpa using hn, fun _ => ⟨_, rfl, by simp, fun j u hu => ?_⟩⟩
  rw [Addr.add_lit]
  have := h.cell j
  simpa [this] using hu

/-- What a row of the reading holds, field by field, at the addresses that the walk spells. -/
theorem Reads.row {w : World} {B s n k : Nat} {A : Option Addr} {xs : List Value} (h : Reads w B s A n xs) (hk : k < n) : ∃ ad, A = some ad ∧ ad.block < B ∧ (0 < s → w.cell? (ad.add (k * s)) = xs[k * s]?) ∧
    ∀ j, 0 < j → j < s → w.cell? ⟨(ad.add (k * s)).block, (ad.add (k * s)).off + j, none⟩ = xs[k * s + j]? := by
  obtain ⟨ad, rfl, hb, hc⟩ := h.2 (by omega)
  have hlen : ∀ j, j < s → k * s + j < xs.length := fun j hj => by
    rw [h.1]
    have h1 : k * s + s ≤ n * s := by
      have := Nat.mul_le_mul_right s (show k + 1 ≤ n from hk)
      rwa [Nat.add_mul, Nat.one_mul] at this
    omega
  refine ⟨ad, rfl, hb, fun hs => ?_, fun j h0 hj => ?_⟩
  · have := hlen 0 hs
    rw [List.getElem?_eq_getElem (by simpa using this)]
    exact hc _ _ (List.getElem?_eq_getElem (by simpa using this))
  · have := hlen j hj
    rw [List.getElem?_eq_getElem this]
    have h2 := hc _ _ (List.getElem?_eq_getElem this)
    rw [← h2, ← add_of_add]
    generalize ad.add (k * s) = q
    unfold Addr.add
    rw [if_neg (by omega)]

theorem own_reads {w : World} {B : Nat} {e : TypeId} {s n : Nat} {xs : List Value} {v : Value} (h : w.ownsRow B e s v n xs) : ∃ A c, v = .slice A n c ∧ Reads w w.heap.size s A n xs := by
  rcases h.2 with ⟨rfl, rfl⟩ | ⟨g, cap, cur, rfl, _⟩
  · have : xs = [] := List.eq_nil_of_length_eq_zero (by simpa using h.1)
    subst this
    exact ⟨none, 0, rfl, Reads.none_⟩
  · exact ⟨_, _, rfl, Reads.of_own h⟩
/-- The own blocks of two rows differ (or the first owns none). -/
def Apart (v u : Value) : Prop := v.ownBlock = none ∨ v.ownBlock ≠ u.ownBlock
theorem Apart.symm {v u : Value} (h : Apart v u) : Apart u v := by
  unfold Apart at *
  rcases h with h | h
  · by_cases e : u.ownBlock = none
    · exact .inl e
    · exact .inr (by rw [h]; exact e)
  · exact .inr (fun e => h e.symm)
theorem Apart.nil (v : Value) : Apart (.slice none 0 0) v := .inl rfl
theorem Apart.nil' (v : Value) : Apart v (.slice none 0 0) := (Apart.nil v).symm

section
variable {P : Program} {w : World}
/-- The row that was appended to (v became v1) lies apart from every other row that v lay apart from. -/
theorem Apart.grown {B : Nat} {e : TypeId} {s n : Nat} {xs : List Value} {v v1 u : Value} (h : Apart v u) (hu : w.ownsRow B e s u n xs) (hat : v1.ownBlock = v.ownBlock ∨ v1.ownBlock = some w.heap.size) : Apart v1 u := by
  unfold Apart at *
  rcases hat with e | e <;> rw [e]
  · exact h
  · refine .inr (fun e' => ?_)
    have := (hu.lt _ e'.symm).2
    omega
theorem own_kept {w' : World} {B : Nat} {e : TypeId} {s n : Nat} {xs : List Value} {v u : Value} (hu : w.ownsRow B e s u n xs) (hg : w.grownBy w' v.ownBlock) (h : Apart v u) : w'.ownsRow B e s u n xs :=
  hu.kept hg (by rcases h.symm with h | h; exact .inl h; exact .inr h)

theorem run_append_one (base : Nat) (t ty e : TypeId) (i : TypeInfo) (z : Value) (size bytes : Nat) (ht : P.underlying t = some (.slice e)) (hi : P.info? e = some i) (hz : i.zero = some z)
    (hsize : i.size = size) (hby : i.bytes = bytes) (hzs : z.cells.size = size) (hsz : 0 < size) (hb1 : bytes ≤ 1024)
    (v : Value) (n : Nat) (xs : List Value) (hown : w.ownsRow base e size v n xs)
    (g : Nat) (cs : Array Value) (hblk : Blk w g e cs) (hcs : cs.size = size) (h1 : cs.toList.all (·.oneCell') = true)
    (hn : n ≤ 4294967296) (hbase : base ≤ w.heap.size) :
    ∃ A' c' w', (Builtin.append_ #[t, t] ty #[v, .slice (some ⟨g, 0, none⟩) 1 1]).run P w = .ok (.slice A' (n + 1) c') w' ∧ w'.ownsRow base e size (.slice A' (n + 1) c') (n + 1) (xs ++ cs.toList) ∧ w.grownBy w' v.ownBlock ∧
      ((Value.slice A' (n + 1) c').ownBlock = v.ownBlock ∨ (Value.slice A' (n + 1) c').ownBlock = some w.heap.size) := by
  have key := run_append_any w base t ty e i z size bytes ht hi hz hsize hby hzs hsz v n xs hown (g + 1) (some ⟨g, 0, none⟩) 1 1 cs.toList (Reads.blk hblk 1 size (by omega)) (fun u hu => List.all_eq_true.1 h1 u hu)
    (by simp only [maxLen]; omega) (by
      have : (n + 1) * bytes ≤ 4294967297 * 1024 := Nat.mul_le_mul (by omega) hb1
      omega) hbase
  obtain ⟨v', w', h1, h2, h3, h4⟩ := key
  obtain ⟨A, c, rfl, _⟩ := own_reads h2
  exact ⟨A, c, w', h1, h2, h3, h4⟩

theorem wp_append_one {o : Oper} {a : Act} {K : Act → World → Prop} {Q : Exit → Act → World → Prop} (s x : Operand) (t : TypeId)
    (ho : o.op = .call { callee := .builtin .append, args := #[s, x], argTypes := #[t, t] })
    (base : Nat) (e : TypeId) (i : TypeInfo) (z : Value) (size bytes : Nat) (ht : P.underlying t = some (.slice e)) (hi : P.info? e = some i) (hz : i.zero = some z)
    (hsize : i.size = size) (hby : i.bytes = bytes) (hzs : z.cells.size = size) (hsz : 0 < size) (hb1 : bytes ≤ 1024)
    (v : Value) (n : Nat) (xs : List Value) (hs : a.eval s = v) (hown : w.ownsRow base e size v n xs)
    (g : Nat) (cs : Array Value) (hx : a.eval x = .slice (some ⟨g, 0, none⟩) 1 1) (hblk : Blk w g e cs) (hcs : cs.size = size) (h1 : cs.toList.all (·.oneCell') = true)
    (hn : n ≤ 4294967296) (hbase : base ≤ w.heap.size)
    (h : ∀ A' c' w', w'.ownsRow base e size (.slice A' (n + 1) c') (n + 1) (xs ++ cs.toList) → w.grownBy w' v.ownBlock → ((Value.slice A' (n + 1) c').ownBlock = v.ownBlock ∨ (Value.slice A' (n + 1) c').ownBlock = some w.heap.size) → K (a.put o.dst (.slice A' (n + 1) c')) w') : o.wp P a w K Q := by
  obtain ⟨A', c', w', hrun, h2, h3, h4⟩ := run_append_one (P := P) (w := w) base t o.type e i z size bytes ht hi hz hsize hby hzs hsz hb1 v n xs hown g cs hblk hcs h1 hn hbase
  unfold Oper.wp execOp
  simp only [ho, resolve, invoke, builtin, Sem.run_bind, Sem.run_pure, Result.andThen_ok, List.map_toArray, List.map_cons, List.map_nil, hs, hx, hrun]
  exact h A' c' w' h2 h3 h4

theorem wpList_append_one {ops : Array Oper} {rest : List Oper} {o : Oper} {a : Act} {Q : Exit → Act → World → Prop} (hgd : o.guard = none) (s x : Operand) (t : TypeId)
    (ho : o.op = .call { callee := .builtin .append, args := #[s, x], argTypes := #[t, t] })
    (base : Nat) (e : TypeId) (i : TypeInfo) (z : Value) (size bytes : Nat) (ht : P.underlying t = some (.slice e)) (hi : P.info? e = some i) (hz : i.zero = some z)
    (hsize : i.size = size) (hby : i.bytes = bytes) (hzs : z.cells.size = size) (hsz : 0 < size) (hb1 : bytes ≤ 1024)
    (v : Value) (n : Nat) (xs : List Value) (hs : a.eval s = v) (hown : w.ownsRow base e size v n xs)
    (g : Nat) (cs : Array Value) (hx : a.eval x = .slice (some ⟨g, 0, none⟩) 1 1) (hblk : Blk w g e cs) (hcs : cs.size = size) (h1 : cs.toList.all (·.oneCell') = true)
    (hn : n ≤ 4294967296) (hbase : base ≤ w.heap.size)
    (h : ∀ A' c' w', w'.ownsRow base e size (.slice A' (n + 1) c') (n + 1) (xs ++ cs.toList) → w.grownBy w' v.ownBlock → ((Value.slice A' (n + 1) c').ownBlock = v.ownBlock ∨ (Value.slice A' (n + 1) c').ownBlock = some w.heap.size) → wpList P ops Q rest (a.put o.dst (.slice A' (n + 1) c')) w') : wpList P ops Q (o :: rest) a w :=
  wpList_plain hgd fun _ hK => wp_append_one s x t ho base e i z size bytes ht hi hz hsize hby hzs hsz hb1 v n xs hs hown g cs hx hblk hcs h1 hn hbase fun A' c' w' h2 h3 h4 => hK _ _ (h A' c' w' h2 h3 h4)

theorem step_append_one {ops : Array Oper} {o : Oper} {a : Act} {K : Act → World → Prop} {Q : Exit → Act → World → Prop} {E : Prop} (hgd : o.guard = none) (s x : Operand) (t : TypeId)
    (ho : o.op = .call { callee := .builtin .append, args := #[s, x], argTypes := #[t, t] })
    (base : Nat) (e : TypeId) (i : TypeInfo) (z : Value) (size bytes : Nat) (ht : P.underlying t = some (.slice e)) (hi : P.info? e = some i) (hz : i.zero = some z)
    (hsize : i.size = size) (hby : i.bytes = bytes) (hzs : z.cells.size = size) (hsz : 0 < size) (hb1 : bytes ≤ 1024)
    (v : Value) (n : Nat) (xs : List Value) (hs : a.eval s = v) (hown : w.ownsRow base e size v n xs)
    (g : Nat) (cs : Array Value) (hx : a.eval x = .slice (some ⟨g, 0, none⟩) 1 1) (hblk : Blk w g e cs) (hcs : cs.size = size) (h1 : cs.toList.all (·.oneCell') = true)
    (hn : n ≤ 4294967296) (hbase : base ≤ w.heap.size)
    (h : ∀ A' c' w', w'.ownsRow base e size (.slice A' (n + 1) c') (n + 1) (xs ++ cs.toList) → w.grownBy w' v.ownBlock → ((Value.slice A' (n + 1) c').ownBlock = v.ownBlock ∨ (Value.slice A' (n + 1) c').ownBlock = some w.heap.size) → K (a.put o.dst (.slice A' (n + 1) c')) w') :
    if Region.wanted o (yielded ops a.tmps) = true then Oper.wp P o a w K Q else E := by
  have hw : Region.wanted o (yielded ops a.tmps) = true := by simp [Region.wanted, hgd]
  rw [if_pos hw]
  exact wp_append_one s x t ho base e i z size bytes ht hi hz hsize hby hzs hsz hb1 v n xs hs hown g cs hx hblk hcs h1 hn hbase h
end

theorem own_mono {w : World} {B B' : Nat} {e : TypeId} {s n : Nat} {xs : List Value} {v : Value} (h : w.ownsRow B e s v n xs) (hB : B' ≤ B) : w.ownsRow B' e s v n xs := by
  refine ⟨h.1, ?_⟩
  rcases h.2 with h2 | ⟨g, cap, cur, hv, hb, r⟩
  · exact .inl h2
  · exact .inr ⟨g, cap, cur, hv, by omega, r⟩
theorem own_below {w w' : World} {B : Nat} {e : TypeId} {s n : Nat} {xs : List Value} {v : Value} (h : w.ownsRow B e s v n xs) (hb : Below w.heap.size w w') : w'.ownsRow B e s v n xs :=
  h.kept (row := none) ⟨hb.os, hb.tape, hb.output, hb.size, fun k hk _ => hb.block k hk⟩ (by cases hv : v.ownBlock <;> simp)
theorem own_setCell_far {w : World} {B : Nat} {e : TypeId} {s n : Nat} {xs : List Value} {v : Value} (h : w.ownsRow B e s v n xs) {p : Addr} (hp : p.block < B) (u : Value) : (w.setCell p u).ownsRow B e s v n xs :=
  ownsRow_setCell_below h hp u
/-- What an append to a row from base on leaves is below the base as it was. -/
theorem below_appended {a w w' : World} {B base : Nat} {e : TypeId} {s n : Nat} {xs : List Value} {v : Value} (h : Below B a w) (hown : w.ownsRow base e s v n xs) (hg : w.grownBy w' v.ownBlock) (hB : B ≤ base) (hw : B ≤ w.heap.size) : Below B a w' :=
  h.grown hg hw fun k hk => by have := (hown.lt k hk).1; omega
theorem blk_appended {w w' : World} {g base : Nat} {e t : TypeId} {s n : Nat} {xs : List Value} {v : Value} {cs : Array Value} (h : Blk w g t cs) (hown : w.ownsRow base e s v n xs) (hg : w.grownBy w' v.ownBlock) (hB : g < base) : Blk w' g t cs :=
  h.grown hg fun e => by have := (hown.lt g e.symm).1; omega

end Go.Proofs.YtokcbipmocpllaaDoor

/-
  Plain lists: what walks over slices want of them.
-/
namespace Go.Proofs.YtokcbipmocpllaaDoor
open Go.RowKit

theorem take_snoc' {α} (l : List α) (k : Nat) (h : k < l.length) : l.take (k + 1) = l.take k ++ [l[k]] := by
  rw [List.take_succ_eq_append_getElem h]

/-- Words as cells. -/
def ints (κ : IntKind) (l : List Int) : List Value := l.map (Value.int κ)
theorem ints_len {κ : IntKind} (l : List Int) : (ints κ l).length = l.length := by simp [ints]
theorem ints_get {κ : IntKind} (l : List Int) (k : Nat) (h : k < l.length) : (ints κ l)[k]? = some (.int κ l[k]) := by simp [ints, h]
theorem ints_append {κ : IntKind} (l m : List Int) : ints κ (l ++ m) = ints κ l ++ ints κ m := by simp [ints]

/-- Pairs of words as cells. -/
def rec2 (l : List (Int × Int)) : List Value := l.flatMap fun r => [.int .u64 r.1, .int .u64 r.2]
theorem rec2_append (l m : List (Int × Int)) : rec2 (l ++ m) = rec2 l ++ rec2 m := by simp [rec2]
theorem rec2_len (l : List (Int × Int)) : (rec2 l).length = l.length * 2 := by
  induction l with
  | nil => rfl
  | cons r l ih =>
    have : (rec2 (r :: l)) = .int .u64 r.1 :: .int .u64 r.2 :: rec2 l := rfl
    rw [this]
    simp only [List.length_cons, ih]
    omega
theorem rec2_get (l : List (Int × Int)) : ∀ (k : Nat) (h : k < l.length), (rec2 l)[k * 2]? = some (.int .u64 l[k].1) ∧ (rec2 l)[k * 2 + 1]? = some (.int .u64 l[k].2) := by
  induction l with
  | nil => intro k h; simp at h
  | cons r l ih =>
    intro k h
    cases k with
    | zero => simp [rec2]
    | succ k =>
      have := ih k (by simpa using h)
      have e1 : (k + 1) * 2 = k * 2 + 2 := by omega
      have e2 : (k + 1) * 2 + 1 = k * 2 + 1 + 2 := by omega
      simpa [rec2, e1, e2] using this

/-- Bounds of a word. -/
def W64 (x : Int) : Prop := 0 ≤ x ∧ x ≤ 18446744073709551615
def I64 (x : Int) : Prop := -9223372036854775808 ≤ x ∧ x ≤ 9223372036854775807
theorem W64.of_wf {x : Int} (h : (Lit.int .u64 x).wf = true) : W64 x := by
  simp [Lit.wf, IntKind.min, IntKind.max, IntKind.signed, IntKind.bits] at h
  exact ⟨by omega, by omega⟩
theorem I64.of_wf {x : Int} (h : (Lit.int .i64 x).wf = true) : I64 x := by
  simp [Lit.wf, IntKind.min, IntKind.max, IntKind.signed, IntKind.bits] at h
  exact ⟨by omega, by omega⟩

end Go.Proofs.YtokcbipmocpllaaDoor

/-
  limbo.Bags: records by their epochs modulo 3.
-/
namespace Go.Proofs.YtokcbipmocpllaaDoor
open Go.RowKit

structure Bag3 (B : Nat) (w : World) (A : Nat → Option Addr) (c : Nat → Nat) (L : Nat → List (Int × Int)) : Prop where
  own : ∀ j, j < 3 → w.ownsRow B 31 2 (.slice (A j) (L j).length (c j)) (L j).length (rec2 (L j))
  ap : ∀ i j, i < 3 → j < 3 → i ≠ j → Apart (.slice (A i) (L i).length (c i)) (.slice (A j) (L j).length (c j))
def bag (l : List (Int × Int)) (j : Nat) : List (Int × Int) := l.filter fun r => r.2 % 3 == (j : Int)

def upd {α : Type} (v : Nat → α) (i : Nat) (x : α) : Nat → α := fun j => if j = i then x else v j

theorem bag_snoc (l : List (Int × Int)) (r : Int × Int) (i : Nat) (h : r.2 % 3 = i) : bag (l ++ [r]) = upd (bag l) i (bag l i ++ [r]) := by
  funext j
  unfold bag upd
  rw [List.filter_append]
  by_cases hj : j = i
  · subst hj; simp [h]
  · rw [if_neg hj]
    have : (r.2 % 3 == (j : Int)) = false := by rw [beq_eq_false_iff_ne]; omega
    simp [this]

theorem Bag3.step {B : Nat} {w w' : World} {A : Nat → Option Addr} {c : Nat → Nat} {L : Nat → List (Int × Int)} (h : Bag3 B w A c L) (i : Nat) (hi : i < 3) (A1 : Option Addr) (c1 : Nat) (r : Int × Int)
    (hown : w'.ownsRow B 31 2 (.slice A1 ((L i).length + 1) c1) ((L i).length + 1) (rec2 (L i) ++ [.int .u64 r.1, .int .u64 r.2])) (hg : w.grownBy w' (Value.slice (A i) (L i).length (c i)).ownBlock)
    (hat : (Value.slice A1 ((L i).length + 1) c1).ownBlock = (Value.slice (A i) (L i).length (c i)).ownBlock ∨ (Value.slice A1 ((L i).length + 1) c1).ownBlock = some w.heap.size) :
    Bag3 B w' (upd A i A1) (upd c i c1) (upd L i (L i ++ [r])) := by
  refine ⟨fun j hj => ?_, fun j k hj hk hjk => ?_⟩
  · unfold upd
    by_cases e : j = i
    · subst e
      simpa [rec2_append, rec2] using hown
    · simp only [if_neg e]
      exact own_kept (h.own j hj) hg (h.ap i j hi hj (Ne.symm e))
  · unfold upd
    by_cases e : j = i
    · subst e
      simp only [if_true, if_neg (Ne.symm hjk)]
      have := Apart.grown (h.ap j k hi hk hjk) (h.own k hk) hat
      simpa using this
    · simp only [if_neg e]
      by_cases e' : k = i
      · subst e'
        have := (Apart.grown (h.ap k j hi hj (Ne.symm hjk)) (h.own j hj) hat).symm
        simpa using this
      · simp only [if_neg e']
        exact h.ap j k hj hk hjk

theorem Bag3.drew {B : Nat} {w : World} {A c L} (h : Bag3 B w A c L) : Bag3 B w.drew A c L := ⟨fun j hj => (h.own j hj), h.ap⟩
theorem Bag3.alloc {B : Nat} {w : World} {A c L} (h : Bag3 B w A c L) (o : Obj) : Bag3 B (w.alloc o) A c L := ⟨fun j hj => (h.own j hj).alloc o, h.ap⟩
theorem Bag3.far {B : Nat} {w : World} {A c L} (h : Bag3 B w A c L) {p : Addr} (hp : p.block < B) (u : Value) : Bag3 B (w.setCell p u) A c L := ⟨fun j hj => own_setCell_far (h.own j hj) hp u, h.ap⟩

theorem infoRecord : (Tryd.prog.info? 31).map (fun i => (i.zero, i.size, i.bytes)) = some (some (.agg #[.int .u64 0, .int .u64 0]), 2, 16) := by kernel_rfl

theorem blk2 (wr : World) (a b : Array Value) (t : TypeId) : Blk ((wr.alloc (.cells a t)).alloc (.cells b t)).drew (wr.heap.size + 1) t b := by
  have := Blk.new (wr.alloc (.cells a t)) t b
  simpa using this.drew
def cells3 (A : Nat → Option Addr) (c : Nat → Nat) (L : Nat → List (Int × Int)) : Array Value := #[.slice (A 0) (L 0).length (c 0), .slice (A 1) (L 1).length (c 1), .slice (A 2) (L 2).length (c 2)]

theorem bag_len (l : List (Int × Int)) (j : Nat) : (bag l j).length ≤ l.length := List.length_filter_le _ _

theorem bags_end {w wr : World} {l : List (Int × Int)} {As : Nat → Option Addr} {cs : Nat → Nat} (hb : Below w.heap.size w wr) (hB3 : Bag3 (w.heap.size + 2) wr As cs (bag l)) (x y z : Value) :
    Bag3 w.heap.size (((wr.setCell ⟨w.heap.size, 0, none⟩ x).setCell ⟨w.heap.size, 1, none⟩ y).setCell ⟨w.heap.size, 2, none⟩ z) As cs (bag l) ∧
    Below w.heap.size w (((wr.setCell ⟨w.heap.size, 0, none⟩ x).setCell ⟨w.heap.size, 1, none⟩ y).setCell ⟨w.heap.size, 2, none⟩ z) := by
  refine ⟨?_, ((hb.setCell (by simp) _).setCell (by simp) _).setCell (by simp) _⟩
  have h := ((hB3.far (p := ⟨w.heap.size, 0, none⟩) (by simp) x).far (p := ⟨w.heap.size, 1, none⟩) (by simp) y).far (p := ⟨w.heap.size, 2, none⟩) (by simp) z
  exact ⟨fun j hj => own_mono (h.own j hj) (by omega), h.ap⟩

end Go.Proofs.YtokcbipmocpllaaDoor

/-
  limbo.Ripe, gleaningref16.Same, awake: contracts.
-/
namespace Go.Proofs.YtokcbipmocpllaaDoor
open Go.RowKit

def ripeB (e ep : Int) : Bool := decide (e + 2 ≤ ep)

set_option maxHeartbeats 400000 in
theorem Ripe_any (h e ep : Int) (w : World) (he : W64 e) (hp : W64 ep) :
    Calls Tryd.prog 64 #[.agg #[.int .u64 h, .int .u64 e], .int .u64 ep] w fun r w' => r = .returned (.bool (ripeB e ep)) ∧ Below w.heap.size w w' := by
  obtain ⟨h0, h1⟩ := he
  obtain ⟨h2, h3⟩ := hp
  by_cases hc : e ≤ ep
  · go_enter Tryd.func64, Tryd.ntmps64
    go_wp2
    go_ret
    exact ⟨by unfold ripeB; congr 2; simp; omega, (Below.refl _ _).alloc (Nat.le_refl _) _⟩
  · go_enter Tryd.func64, Tryd.ntmps64
    go_wp2
    go_ret
    exact ⟨by unfold ripeB; congr 2; simp; omega, (Below.refl _ _).alloc (Nat.le_refl _) _⟩

set_option maxHeartbeats 400000 in
theorem Same_eq (A B : Option Addr) (n c d : Nat) (l : List (Int × Int)) (w : World) (hl : l.length = n) (hn : n ≤ 1000) (hA : Reads w w.heap.size 2 A n (rec2 l)) (hB : Reads w w.heap.size 2 B n (rec2 l)) :
    Calls Tryd.prog 27 #[.slice A n c, .slice B n d] w fun r w' => r = .returned (.bool true) ∧ Below w.heap.size w w' := by
  have Hl := hide hl
  clear hl
  go_enter Tryd.func27, Tryd.ntmps27
  go_wp2_with fail
  go_loopw [5] (fun i wr => ∃ (k : Nat), i = .int .i64 k ∧ k ≤ n ∧ Below w.heap.size w wr) (fun i _ => n - (intOf i).toNat)
  case atStart => exact ⟨0, rfl, by omega, Below.refl _ _⟩
  case round =>
    obtain ⟨k, rfl, hk, hb⟩ := hrel
    by_cases hlt : k < n
    · have hkl : k < l.length := by rw [Hl.out]; exact hlt
      obtain ⟨a, rfl, _, x1, x2⟩ := (hA.below hb).row hlt
      obtain ⟨b, rfl, _, x3, x4⟩ := (hB.below hb).row hlt
      obtain ⟨y1, y2⟩ := rec2_get l k hkl
      have z1 := (x1 (by omega)).trans y1
      have z2 := (x2 1 (by omega) (by omega)).trans y2
      have z3 := (x3 (by omega)).trans y1
      have z4 := (x4 1 (by omega) (by omega)).trans y2
      generalize l[k].1 = h0 at *
      generalize l[k].2 = e0 at *
      clear x1 x2 x3 x4 y1 y2
      go_wp2_with fail
      go_quiet (fail)
      go_wp2_with fail
      go_roundw
      case rel => exact ⟨k + 1, by go_num, by omega, below_drewN hb _⟩
      case measure => simp [intOf]; omega
    · go_wp2_with fail
      go_ret
      exact ⟨rfl, hb⟩

end Go.Proofs.YtokcbipmocpllaaDoor

/-
  Readings of words and of pairs of words, asked at an index.
-/
namespace Go.Proofs.YtokcbipmocpllaaDoor
open Go.RowKit

theorem Reads.word {w : World} {B n k : Nat} {A : Option Addr} {κ : IntKind} {l : List Int} (h : Reads w B 1 A n (ints κ l)) (hk : k < n) :
    ∃ a, A = some a ∧ ∃ hl : k < l.length, w.cell? (a.add k) = some (.int κ l[k]) := by
  have hl : k < l.length := by
    have := h.1
    rw [ints_len, Nat.mul_one] at this
    omega
  obtain ⟨a, ha, _, x, _⟩ := h.row hk
  have x1 := x (by omega)
  rw [Nat.mul_one] at x1
  exact ⟨a, ha, hl, x1.trans (ints_get l k hl)⟩

theorem Reads.pair {w : World} {B n k : Nat} {A : Option Addr} {l : List (Int × Int)} (h : Reads w B 2 A n (rec2 l)) (hk : k < n) :
    ∃ a, A = some a ∧ ∃ hl : k < l.length, w.cell? (a.add (k * 2)) = some (.int .u64 l[k].1) ∧ w.cell? ⟨(a.add (k * 2)).block, (a.add (k * 2)).off + 1, none⟩ = some (.int .u64 l[k].2) := by
  have hl : k < l.length := by
    have := h.1
    rw [rec2_len] at this
    omega
  obtain ⟨a, ha, _, x, y⟩ := h.row hk
  obtain ⟨y1, y2⟩ := rec2_get l k hl
  exact ⟨a, ha, hl, (x (by omega)).trans y1, (y 1 (by omega) (by omega)).trans y2⟩

theorem Reads.lenWord {w : World} {B n : Nat} {A : Option Addr} {κ : IntKind} {l : List Int} (h : Reads w B 1 A n (ints κ l)) : l.length = n := by
  have := h.1
  rw [ints_len, Nat.mul_one] at this
  exact this
theorem Reads.lenPair {w : World} {B n : Nat} {A : Option Addr} {l : List (Int × Int)} (h : Reads w B 2 A n (rec2 l)) : l.length = n := by
  have := h.1
  rw [rec2_len] at this
  omega
theorem filter_len_take {α : Type} (p : α → Bool) (l : List α) (k : Nat) : ((l.take k).filter p).length ≤ k := by
  have h1 := List.length_filter_le p (l.take k)
  have h2 : (l.take k).length ≤ k := List.length_take_le _ _
  omega
theorem filter_snoc_yes {α : Type} {p : α → Bool} {l : List α} {x : α} (h : p x = true) : (l ++ [x]).filter p = l.filter p ++ [x] := by simp [List.filter_append, h]
theorem filter_snoc_no {α : Type} {p : α → Bool} {l : List α} {x : α} (h : p x = false) : (l ++ [x]).filter p = l.filter p := by simp [List.filter_append, h]
end Go.Proofs.YtokcbipmocpllaaDoor

/-
  limbo.parted at api.Record, whatever function value is asked: the elements to which it says yes, and the others.
-/
namespace Go.Proofs.YtokcbipmocpllaaDoor
open Go.RowKit

theorem infoRec' : (Tryd.prog.info? 31).map (fun i => (i.zero, i.size, i.bytes)) = some (some (.agg #[.int .u64 0, .int .u64 0]), 2, 16) := by kernel_rfl

def PartRec (n : Nat) (l : List (Int × Int)) (p : Int × Int → Bool) (w : World) (v1 v2 i : Value) (wr : World) : Prop :=
  ∃ (k : Nat) (A1 A2 : Option Addr) (n1 n2 c1 c2 : Nat), i = .int .i64 k ∧ k ≤ n ∧ v1 = .slice A1 n1 c1 ∧ v2 = .slice A2 n2 c2 ∧ Below w.heap.size w wr ∧ n1 = ((l.take k).filter p).length ∧ n2 = ((l.take k).filter (fun x => !p x)).length ∧
    wr.ownsRow w.heap.size 31 2 (.slice A1 n1 c1) n1 (rec2 ((l.take k).filter p)) ∧ wr.ownsRow w.heap.size 31 2 (.slice A2 n2 c2) n2 (rec2 ((l.take k).filter (fun x => !p x))) ∧
    Apart (.slice A1 n1 c1) (.slice A2 n2 c2)

set_option maxHeartbeats 400000 in
theorem parted_rec (A : Option Addr) (n c : Nat) (l : List (Int × Int)) (fid : FuncId) (caps : Array Value) (p : Int × Int → Bool) (w : World) (hl : l.length = n) (hn : n ≤ 1000) (hr : Reads w w.heap.size 2 A n (rec2 l))
    (hcf : ∀ args w', (callFunc fid args).run Tryd.prog w' = .ok (.enter fid args) w')
    (hyes : ∀ x ∈ l, ∀ w', Below w.heap.size w w' → Calls Tryd.prog fid (#[.agg #[.int .u64 x.1, .int .u64 x.2]] ++ caps) w' fun e w'' => e = .returned (.bool (p x)) ∧ Below w'.heap.size w' w'') :
    Calls Tryd.prog 88 #[.slice A n c, .func (.func fid) #[] caps] w fun e w' => (∃ A1 n1 c1 A2 n2 c2, e = .returned (.tuple #[.slice A1 n1 c1, .slice A2 n2 c2]) ∧ n1 = (l.filter p).length ∧ n2 = (l.filter (fun x => !p x)).length ∧
      Reads w' w'.heap.size 2 A1 n1 (rec2 (l.filter p)) ∧ Reads w' w'.heap.size 2 A2 n2 (rec2 (l.filter fun x => !p x))) ∧ Below w.heap.size w w' := by
  obtain ⟨i0, hi0, hz0, hs0, hb0⟩ := info_parts infoRec'
  have Hl := hide hl
  have Hy := hide hyes
  clear hl hyes
  go_enter Tryd.func88, Tryd.ntmps88
  go_wp2_with fail
  go_loopw [6, 7, 12] (PartRec n l p w) (fun _ _ i _ => n - (intOf i).toNat)
  case atStart => exact ⟨0, none, none, 0, 0, 0, 0, rfl, by omega, rfl, rfl, Below.refl _ _, rfl, rfl, World.ownsRow_nil _ _ _ _, World.ownsRow_nil _ _ _ _, .inl rfl⟩
  case round =>
    obtain ⟨k, A1, A2, n1, n2, c1, c2, rfl, hk, rfl, rfl, hb, hn1, hn2, hown1, hown2, hap⟩ := hrel
    have Hn1 := hide hn1
    have Hn2 := hide hn2
    clear hn1 hn2
    by_cases hlt : k < n
    · obtain ⟨a, rfl, hkl, z1, z2⟩ := (hr.below hb).pair hlt
      have Hy1 := hide (Hy.out l[k] (List.getElem_mem hkl))
      have Htk := hide (take_snoc' l k hkl)
      generalize l[k] = x at *
      obtain ⟨h0, e0⟩ := x
      simp only at z1 z2 Hy1
      by_cases hp : p (h0, e0) = true
      · skip
        have Hp := hide hp
        have Hf1 := hide ((congrArg (List.filter p) Htk.out).trans (filter_snoc_yes hp))
        have Hf2 := hide ((congrArg (List.filter fun x => !p x) Htk.out).trans (filter_snoc_no (by simp [hp])))
        clear hp
        have hm1 : n1 ≤ 4294967296 := by rw [Hn1.out]; have := filter_len_take p l k; omega
        have hm2 : n2 ≤ 4294967296 := by rw [Hn2.out]; have := filter_len_take (fun x => !p x) l k; omega
        go_wp2_with fail
        refine (Hy1.out _ (hb.alloc hb.size _)).mono ?_
        rintro e w2 ⟨rfl, hb2⟩
        rw [Hp.out]
        have hz2 := hb2.size
        have hzw := hb.size
        simp only [World.size_alloc] at hz2
        have hbw := (hb.alloc hzw (.cells #[.int .u64 h0, .int .u64 e0] 31)).trans (hb2.mono (by simp; omega))
        obtain ⟨q0, q1⟩ : w2.cell? ⟨wr.heap.size, 0, none⟩ = some (.int .u64 h0) ∧ w2.cell? ⟨wr.heap.size, 1, none⟩ = some (.int .u64 e0) := by
          obtain ⟨h1, _⟩ := bcell hb2
          rw [h1 _ _ (by simp), h1 _ _ (by simp)]
          simp [go_sem]
        have ho1 := (own_below (hown1.alloc _) hb2).alloc (.cells #[.int .u64 h0, .int .u64 e0] 31)
        have ho2 := (own_below (hown2.alloc _) hb2).alloc (.cells #[.int .u64 h0, .int .u64 e0] 31)
        go_wp2_with (at_builtin; refine wpList_append_one rfl (.tmp 19) (.tmp 21) _ rfl w.heap.size 31 i0 _ 2 16 Tryd.underlying22 hi0 hz0 hs0 hb0 rfl (by omega) (by omega) (.slice A1 n1 c1) n1 _ rfl ho1 w2.heap.size #[.int .u64 h0, .int .u64 e0] rfl (Blk.new _ _ _) rfl rfl hm1 (by simp; omega) ?_; intro A3 c3 w3 hown3 hg3 hat3)
        have hb3 := below_appended (hbw.alloc (by omega) _) ho1 hg3 (Nat.le_refl _) (by simp; omega)
        go_roundw
        case measure => simp [intOf]; omega
        case rel => exact ⟨k + 1, A3, A2, n1 + 1, n2, c3, c2, by go_num, by omega, rfl, rfl, hb3, by rw [Hf1.out, List.length_append, ← Hn1.out]; rfl, by rw [Hf2.out]; exact Hn2.out, by rw [Hf1.out, rec2_append]; exact hown3, by rw [Hf2.out]; exact own_kept ho2 hg3 hap, Apart.grown hap ho2 hat3⟩
      · replace hp : p (h0, e0) = false := by simpa using hp
        have Hp := hide hp
        have Hf1 := hide ((congrArg (List.filter p) Htk.out).trans (filter_snoc_no hp))
        have Hf2 := hide ((congrArg (List.filter fun x => !p x) Htk.out).trans (filter_snoc_yes (by simp [hp])))
        clear hp
        have hm1 : n1 ≤ 4294967296 := by rw [Hn1.out]; have := filter_len_take p l k; omega
        have hm2 : n2 ≤ 4294967296 := by rw [Hn2.out]; have := filter_len_take (fun x => !p x) l k; omega
        go_wp2_with fail
        refine (Hy1.out _ (hb.alloc hb.size _)).mono ?_
        rintro e w2 ⟨rfl, hb2⟩
        rw [Hp.out]
        have hz2 := hb2.size
        have hzw := hb.size
        simp only [World.size_alloc] at hz2
        have hbw := (hb.alloc hzw (.cells #[.int .u64 h0, .int .u64 e0] 31)).trans (hb2.mono (by simp; omega))
        obtain ⟨q0, q1⟩ : w2.cell? ⟨wr.heap.size, 0, none⟩ = some (.int .u64 h0) ∧ w2.cell? ⟨wr.heap.size, 1, none⟩ = some (.int .u64 e0) := by
          obtain ⟨h1, _⟩ := bcell hb2
          rw [h1 _ _ (by simp), h1 _ _ (by simp)]
          simp [go_sem]
        have ho1 := (own_below (hown1.alloc _) hb2).alloc (.cells #[.int .u64 h0, .int .u64 e0] 31)
        have ho2 := (own_below (hown2.alloc _) hb2).alloc (.cells #[.int .u64 h0, .int .u64 e0] 31)
        go_wp2_with (at_builtin; refine wpList_append_one rfl (.tmp 23) (.tmp 25) _ rfl w.heap.size 31 i0 _ 2 16 Tryd.underlying22 hi0 hz0 hs0 hb0 rfl (by omega) (by omega) (.slice A2 n2 c2) n2 _ rfl ho2 w2.heap.size #[.int .u64 h0, .int .u64 e0] rfl (Blk.new _ _ _) rfl rfl hm2 (by simp; omega) ?_; intro A3 c3 w3 hown3 hg3 hat3)
        have hb3 := below_appended (hbw.alloc (by omega) _) ho2 hg3 (Nat.le_refl _) (by simp; omega)
        go_roundw
        case measure => simp [intOf]; omega
        case rel => exact ⟨k + 1, A1, A3, n1, n2 + 1, c1, c3, by go_num, by omega, rfl, rfl, hb3, by rw [Hf1.out]; exact Hn1.out, by rw [Hf2.out, List.length_append, ← Hn2.out]; rfl, by rw [Hf1.out]; exact own_kept ho1 hg3 hap.symm, by rw [Hf2.out, rec2_append]; exact hown3, (Apart.grown hap.symm ho1 hat3).symm⟩
    · go_wp2_with fail
      go_ret2
      have e : l.take k = l := List.take_of_length_le (by rw [Hl.out]; omega)
      have Hn1' := Hn1.out
      have Hn2' := Hn2.out
      rw [e] at hown1 hown2 Hn1' Hn2'
      exact ⟨⟨A1, n1, c1, A2, n2, c2, rfl, Hn1', Hn2', Reads.of_own hown1, Reads.of_own hown2⟩, hb⟩
end Go.Proofs.YtokcbipmocpllaaDoor

/-
  limbo.parted at uint64 and at api.Record, whatever function value is asked: the elements to which it says yes, and the others.
-/
namespace Go.Proofs.YtokcbipmocpllaaDoor
open Go.RowKit

theorem infoU64 : (Tryd.prog.info? 29).map (fun i => (i.zero, i.size, i.bytes)) = some (some (.int .u64 0), 1, 8) := by kernel_rfl

def PartIn (n : Nat) (l : List Int) (p : Int → Bool) (w : World) (v1 v2 i : Value) (wr : World) : Prop :=
  ∃ (k : Nat) (A1 A2 : Option Addr) (n1 n2 c1 c2 : Nat), i = .int .i64 k ∧ k ≤ n ∧ v1 = .slice A1 n1 c1 ∧ v2 = .slice A2 n2 c2 ∧ Below w.heap.size w wr ∧ n1 = ((l.take k).filter p).length ∧ n2 = ((l.take k).filter (fun x => !p x)).length ∧
    wr.ownsRow w.heap.size 29 1 (.slice A1 n1 c1) n1 (ints .u64 ((l.take k).filter p)) ∧ wr.ownsRow w.heap.size 29 1 (.slice A2 n2 c2) n2 (ints .u64 ((l.take k).filter (fun x => !p x))) ∧
    Apart (.slice A1 n1 c1) (.slice A2 n2 c2)

set_option maxHeartbeats 400000 in
theorem parted_u64 (A : Option Addr) (n c : Nat) (l : List Int) (fid : FuncId) (caps : Array Value) (p : Int → Bool) (w : World) (hl : l.length = n) (hn : n ≤ 1000) (hr : Reads w w.heap.size 1 A n (ints .u64 l))
    (hcf : ∀ args w', (callFunc fid args).run Tryd.prog w' = .ok (.enter fid args) w')
    (hyes : ∀ x ∈ l, ∀ w', Below w.heap.size w w' → Calls Tryd.prog fid (#[.int .u64 x] ++ caps) w' fun e w'' => e = .returned (.bool (p x)) ∧ Below w'.heap.size w' w'') :
    Calls Tryd.prog 90 #[.slice A n c, .func (.func fid) #[] caps] w fun e w' => (∃ A1 n1 c1 A2 n2 c2, e = .returned (.tuple #[.slice A1 n1 c1, .slice A2 n2 c2]) ∧ n1 = (l.filter p).length ∧ n2 = (l.filter (fun x => !p x)).length ∧
      Reads w' w'.heap.size 1 A1 n1 (ints .u64 (l.filter p)) ∧ Reads w' w'.heap.size 1 A2 n2 (ints .u64 (l.filter fun x => !p x))) ∧ Below w.heap.size w w' := by
  obtain ⟨i0, hi0, hz0, hs0, hb0⟩ := info_parts infoU64
  have Hl := hide hl
  have Hy := hide hyes
  clear hl hyes
  go_enter Tryd.func90, Tryd.ntmps90
  go_wp2_with fail
  go_loopw [6, 7, 12] (PartIn n l p w) (fun _ _ i _ => n - (intOf i).toNat)
  case atStart => exact ⟨0, none, none, 0, 0, 0, 0, rfl, by omega, rfl, rfl, Below.refl _ _, rfl, rfl, World.ownsRow_nil _ _ _ _, World.ownsRow_nil _ _ _ _, .inl rfl⟩
  case round =>
    obtain ⟨k, A1, A2, n1, n2, c1, c2, rfl, hk, rfl, rfl, hb, hn1, hn2, hown1, hown2, hap⟩ := hrel
    have Hn1 := hide hn1
    have Hn2 := hide hn2
    clear hn1 hn2
    by_cases hlt : k < n
    · obtain ⟨a, rfl, hkl, z1⟩ := (hr.below hb).word hlt
      have Hy1 := hide (Hy.out l[k] (List.getElem_mem hkl))
      have Htk := hide (take_snoc' l k hkl)
      generalize l[k] = x at *
      by_cases hp : p x = true
      · skip
        have Hp := hide hp
        have Hf1 := hide ((congrArg (List.filter p) Htk.out).trans (filter_snoc_yes hp))
        have Hf2 := hide ((congrArg (List.filter fun x => !p x) Htk.out).trans (filter_snoc_no (by simp [hp])))
        clear hp
        have hm1 : n1 ≤ 4294967296 := by rw [Hn1.out]; have := filter_len_take p l k; omega
        have hm2 : n2 ≤ 4294967296 := by rw [Hn2.out]; have := filter_len_take (fun x => !p x) l k; omega
        go_wp2_with fail
        refine (Hy1.out wr hb).mono ?_
        rintro e w2 ⟨rfl, hb2⟩
        rw [Hp.out]
        have hz2 := hb2.size
        have hzw := hb.size
        have hbw := hb.trans (hb2.mono hzw)
        have ho1 := (own_below hown1 hb2).alloc (.cells #[.int .u64 x] 29)
        have ho2 := (own_below hown2 hb2).alloc (.cells #[.int .u64 x] 29)
        go_wp2_with (at_builtin; refine wpList_append_one rfl (.tmp 19) (.tmp 21) _ rfl w.heap.size 29 i0 _ 1 8 Tryd.underlying23 hi0 hz0 hs0 hb0 rfl (by omega) (by omega) (.slice A1 n1 c1) n1 _ rfl ho1 w2.heap.size #[.int .u64 x] rfl (Blk.new _ _ _) rfl rfl hm1 (by simp; omega) ?_; intro A3 c3 w3 hown3 hg3 hat3)
        have hb3 := below_appended (hbw.alloc (by omega) _) ho1 hg3 (Nat.le_refl _) (by simp; omega)
        go_roundw
        case measure => simp [intOf]; omega
        case rel => exact ⟨k + 1, A3, A2, n1 + 1, n2, c3, c2, by go_num, by omega, rfl, rfl, hb3, by rw [Hf1.out, List.length_append, ← Hn1.out]; rfl, by rw [Hf2.out]; exact Hn2.out, by rw [Hf1.out, ints_append]; exact hown3, by rw [Hf2.out]; exact own_kept ho2 hg3 hap, Apart.grown hap ho2 hat3⟩
      · replace hp : p x = false := by simpa using hp
        have Hp := hide hp
        have Hf1 := hide ((congrArg (List.filter p) Htk.out).trans (filter_snoc_no hp))
        have Hf2 := hide ((congrArg (List.filter fun x => !p x) Htk.out).trans (filter_snoc_yes (by simp [hp])))
        clear hp
        have hm1 : n1 ≤ 4294967296 := by rw [Hn1.out]; have := filter_len_take p l k; omega
        have hm2 : n2 ≤ 4294967296 := by rw [Hn2.out]; have := filter_len_take (fun x => !p x) l k; omega
        go_wp2_with fail
        refine (Hy1.out wr hb).mono ?_
        rintro e w2 ⟨rfl, hb2⟩
        rw [Hp.out]
        have hz2 := hb2.size
        have hzw := hb.size
        have hbw := hb.trans (hb2.mono hzw)
        have ho1 := (own_below hown1 hb2).alloc (.cells #[.int .u64 x] 29)
        have ho2 := (own_below hown2 hb2).alloc (.cells #[.int .u64 x] 29)
        go_wp2_with (at_builtin; refine wpList_append_one rfl (.tmp 23) (.tmp 25) _ rfl w.heap.size 29 i0 _ 1 8 Tryd.underlying23 hi0 hz0 hs0 hb0 rfl (by omega) (by omega) (.slice A2 n2 c2) n2 _ rfl ho2 w2.heap.size #[.int .u64 x] rfl (Blk.new _ _ _) rfl rfl hm2 (by simp; omega) ?_; intro A3 c3 w3 hown3 hg3 hat3)
        have hb3 := below_appended (hbw.alloc (by omega) _) ho2 hg3 (Nat.le_refl _) (by simp; omega)
        go_roundw
        case measure => simp [intOf]; omega
        case rel => exact ⟨k + 1, A1, A3, n1, n2 + 1, c1, c3, by go_num, by omega, rfl, rfl, hb3, by rw [Hf1.out]; exact Hn1.out, by rw [Hf2.out, List.length_append, ← Hn2.out]; rfl, by rw [Hf1.out]; exact own_kept ho1 hg3 hap.symm, by rw [Hf2.out, ints_append]; exact hown3, (Apart.grown hap.symm ho1 hat3).symm⟩
    · go_wp2_with fail
      go_ret2
      have e : l.take k = l := List.take_of_length_le (by rw [Hl.out]; omega)
      have Hn1' := Hn1.out
      have Hn2' := Hn2.out
      rw [e] at hown1 hown2 Hn1' Hn2'
      exact ⟨⟨A1, n1, c1, A2, n2, c2, rfl, Hn1', Hn2', Reads.of_own hown1, Reads.of_own hown2⟩, hb⟩
end Go.Proofs.YtokcbipmocpllaaDoor

/-
  Fields of bits, in plain numbers.
-/
namespace Go.Proofs.YtokcbipmocpllaaDoor

/-- How many bits a field has; what it tells; a word with another field. -/
def fcut (at_ size : Int) : Int := if at_ < 0 ∨ 63 < at_ ∨ size < 1 then 0 else min size (64 - at_)
def fget (w at_ size : Int) : Int := if at_ < 0 ∨ 63 < at_ ∨ size < 1 then 0 else w / 2 ^ at_.toNat % 2 ^ (min size (64 - at_)).toNat
def fput (w at_ size v : Int) : Int :=
  if at_ < 0 ∨ 63 < at_ ∨ size < 1 then w else w - w / 2 ^ at_.toNat % 2 ^ (min size (64 - at_)).toNat * 2 ^ at_.toNat + v % 2 ^ (min size (64 - at_)).toNat * 2 ^ at_.toNat
def fmask (size : Int) : Int := if size < 1 then 0 else if 64 ≤ size then 18446744073709551615 else 2 ^ size.toNat - 1

theorem pow_split {a n : Nat} (h : a + n ≤ 64) : (2 : Nat) ^ a * 2 ^ n * 2 ^ (64 - a - n) = 18446744073709551616 := by
  rw [← Nat.pow_add, ← Nat.pow_add]
  have : a + n + (64 - a - n) = 64 := by omega
  rw [this]

/-- The middle of a word: below, the field, above. -/
theorem nat_parts (w a n : Nat) : w = 2 ^ a * (2 ^ n * (w / 2 ^ a / 2 ^ n) + w / 2 ^ a % 2 ^ n) + w % 2 ^ a := by
  rw [Nat.div_add_mod (w / 2 ^ a) (2 ^ n), Nat.div_add_mod w (2 ^ a)]

theorem nat_put_sum (w v a n : Nat) : w - w / 2 ^ a % 2 ^ n * 2 ^ a + v % 2 ^ n * 2 ^ a = 2 ^ a * (2 ^ n * (w / 2 ^ a / 2 ^ n) + v % 2 ^ n) + w % 2 ^ a := by
  have h := nat_parts w a n
  generalize w / 2 ^ a / 2 ^ n = p at *
  generalize w / 2 ^ a % 2 ^ n = q at *
  generalize w % 2 ^ a = r at *
  generalize v % 2 ^ n = s at *
  generalize 2 ^ n * p = t at *
  rw [Nat.mul_add] at *
  rw [Nat.mul_comm q, Nat.mul_comm s]
  omega

theorem nat_put_bit (w v a n i : Nat) : (2 ^ a * (2 ^ n * (w / 2 ^ a / 2 ^ n) + v % 2 ^ n) + w % 2 ^ a).testBit i = if a ≤ i ∧ i < a + n then v.testBit (i - a) else w.testBit i := by
  rw [Nat.testBit_two_pow_mul_add _ (Nat.mod_lt _ (Nat.two_pow_pos a))]
  by_cases h : i < a
  · rw [if_pos h, if_neg (by omega), Nat.testBit_mod_two_pow]
    simp [h]
  · rw [if_neg h, Nat.testBit_two_pow_mul_add _ (Nat.mod_lt _ (Nat.two_pow_pos n))]
    by_cases h2 : i - a < n
    · rw [if_pos h2, if_pos (by omega), Nat.testBit_mod_two_pow]
      simp [h2]
    · rw [if_neg h2, if_neg (by omega), Nat.testBit_div_two_pow, Nat.testBit_div_two_pow]
      congr 1
      omega

theorem mask_bit (a n i : Nat) : (2 ^ a * (2 ^ n - 1)).testBit i = (decide (a ≤ i) && decide (i < a + n)) := by
  rw [Nat.testBit_two_pow_mul, Nat.testBit_two_pow_sub_one]
  by_cases h : a ≤ i
  · have : (i - a < n) = (i < a + n) := by simp; omega
    simp [h, this]
  · simp [h]

theorem nat_put (w v a n : Nat) (hw : w < 18446744073709551616) (h : a + n ≤ 64) :
    ((w &&& (18446744073709551615 - 2 ^ a * (2 ^ n - 1))) ||| ((v * 2 ^ a % 18446744073709551616) &&& 2 ^ a * (2 ^ n - 1))) = w - w / 2 ^ a % 2 ^ n * 2 ^ a + v % 2 ^ n * 2 ^ a := by
  rw [nat_put_sum]
  have hm : 2 ^ a * (2 ^ n - 1) < 2 ^ 64 := by
    have h1 : 2 ^ a * (2 ^ n - 1) < 2 ^ a * 2 ^ n := Nat.mul_lt_mul_of_pos_left (by have := Nat.two_pow_pos n; omega) (Nat.two_pow_pos a)
    rw [← Nat.pow_add] at h1
    exact Nat.lt_of_lt_of_le h1 (Nat.pow_le_pow_right (by omega) h)
  apply Nat.eq_of_testBit_eq
  intro i
  have e1 : (18446744073709551615 : Nat) - 2 ^ a * (2 ^ n - 1) = 2 ^ 64 - (2 ^ a * (2 ^ n - 1) + 1) := by omega
  have e2 : (18446744073709551616 : Nat) = 2 ^ 64 := by decide
  rw [nat_put_bit, Nat.testBit_or, Nat.testBit_and, Nat.testBit_and, e1, Nat.testBit_two_pow_sub_succ hm, mask_bit, e2, Nat.testBit_mod_two_pow, Nat.mul_comm v, Nat.testBit_two_pow_mul]
  have hwi : 64 ≤ i → w.testBit i = false := fun hi => Nat.testBit_lt_two_pow (Nat.lt_of_lt_of_le (by rw [← e2]; exact hw) (Nat.pow_le_pow_right (by omega) hi))
  by_cases c1 : a ≤ i <;> by_cases c2 : i < a + n <;> simp [c1, c2]
  · intro _; omega
  · intro hb; by_cases hi : i < 64
    · exact hi
    · rw [hwi (by omega)] at hb; cases hb
  · intro hb; by_cases hi : i < 64
    · exact hi
    · rw [hwi (by omega)] at hb; cases hb
  · intro hb; by_cases hi : i < 64
    · exact hi
    · rw [hwi (by omega)] at hb; cases hb

theorem fmask_nat {n : Nat} (h1 : 1 ≤ n) (h2 : n ≤ 64) : fmask (n : Int) = ((2 ^ n - 1 : Nat) : Int) := by
  unfold fmask
  rw [if_neg (by omega)]
  by_cases h : n = 64
  · subst h; rw [if_pos (by decide)]; decide
  · rw [if_neg (by omega), Int.toNat_natCast]
    have := Nat.two_pow_pos n
    rw [Int.natCast_sub (by omega)]
    simp

/-- A field that is there, in natural numbers. -/
theorem field_nat {at_ size : Int} (hc : ¬ (at_ < 0 ∨ 63 < at_ ∨ size < 1)) : ∃ a n : Nat, at_ = a ∧ a ≤ 63 ∧ 1 ≤ n ∧ a + n ≤ 64 ∧ min size (64 - at_) = n ∧ fcut at_ size = n := by
  refine ⟨at_.toNat, (min size (64 - at_)).toNat, by omega, by omega, by omega, by omega, by omega, ?_⟩
  unfold fcut
  rw [if_neg hc]
  omega

theorem fput_nat {a n : Nat} {size : Int} (x v : Nat) (hc : ¬ ((a : Int) < 0 ∨ 63 < (a : Int) ∨ size < 1)) (hn : min size (64 - (a : Int)) = n) :
    fput x a size v = ((x - x / 2 ^ a % 2 ^ n * 2 ^ a + v % 2 ^ n * 2 ^ a : Nat) : Int) := by
  unfold fput
  rw [if_neg hc, hn, Int.toNat_natCast, Int.toNat_natCast]
  have hle : x / 2 ^ a % 2 ^ n * 2 ^ a ≤ x := by
    have h := nat_parts x a n
    rw [Nat.mul_add] at h
    rw [Nat.mul_comm]
    omega
  rw [Int.natCast_add, Int.natCast_sub hle]
  simp
theorem fget_nat {a n : Nat} {size : Int} (x : Nat) (hc : ¬ ((a : Int) < 0 ∨ 63 < (a : Int) ∨ size < 1)) (hn : min size (64 - (a : Int)) = n) :
    fget x a size = ((x / 2 ^ a % 2 ^ n : Nat) : Int) := by
  unfold fget
  rw [if_neg hc, hn, Int.toNat_natCast, Int.toNat_natCast]
  simp

theorem mask_shift {a n : Nat} (h1 : 1 ≤ n) (h : a + n ≤ 64) : IntKind.u64.wrap (fmask (n : Int) * 2 ^ a) = ((2 ^ a * (2 ^ n - 1) : Nat) : Int) := by
  rw [fmask_nat h1 (by omega), IntKind.wrap_u64]
  have hm : 2 ^ a * (2 ^ n - 1) < 2 ^ 64 := by
    have h1 : 2 ^ a * (2 ^ n - 1) < 2 ^ a * 2 ^ n := Nat.mul_lt_mul_of_pos_left (by have := Nat.two_pow_pos n; omega) (Nat.two_pow_pos a)
    rw [← Nat.pow_add] at h1
    exact Nat.lt_of_lt_of_le h1 (Nat.pow_le_pow_right (by omega) h)
  have e : ((2 ^ n - 1 : Nat) : Int) * 2 ^ a = ((2 ^ a * (2 ^ n - 1) : Nat) : Int) := by
    rw [Nat.mul_comm]; simp
  rw [e]
  omega
theorem word_shift (v a : Nat) : IntKind.u64.wrap ((v : Int) * 2 ^ a) = ((v * 2 ^ a % 18446744073709551616 : Nat) : Int) := by
  rw [IntKind.wrap_u64]
  simp

theorem put_bits {x at_ size v : Int} (hx : W64 x) (hv : W64 v) (hc : ¬ (at_ < 0 ∨ 63 < at_ ∨ size < 1)) :
    bits .or .u64 (bits .andNot .u64 x (IntKind.u64.wrap (fmask (fcut at_ size) * 2 ^ at_.toNat))) (bits .and .u64 (IntKind.u64.wrap (v * 2 ^ at_.toNat)) (IntKind.u64.wrap (fmask (fcut at_ size) * 2 ^ at_.toNat))) = fput x at_ size v := by
  obtain ⟨a, n, rfl, ha, hn, han, hmin, hcut⟩ := field_nat hc
  obtain ⟨x, rfl⟩ := Int.eq_ofNat_of_zero_le hx.1
  obtain ⟨v, rfl⟩ := Int.eq_ofNat_of_zero_le hv.1
  have hx2 := hx.2
  have hm : 2 ^ a * (2 ^ n - 1) < 2 ^ 64 := by
    have h1 : 2 ^ a * (2 ^ n - 1) < 2 ^ a * 2 ^ n := Nat.mul_lt_mul_of_pos_left (by have := Nat.two_pow_pos n; omega) (Nat.two_pow_pos a)
    rw [← Nat.pow_add] at h1
    exact Nat.lt_of_lt_of_le h1 (Nat.pow_le_pow_right (by omega) han)
  rw [fput_nat x v hc hmin, hcut, Int.toNat_natCast, mask_shift hn han, word_shift, u64_andNot_nat _ _ (by omega) (by omega), u64_and_nat _ _ (by omega) (by omega), u64_or_nat, nat_put x v a n (by omega) han]
  · exact Nat.lt_of_le_of_lt Nat.and_le_left (by omega)
  · exact Nat.lt_of_le_of_lt Nat.and_le_left (by omega)

theorem get_bits {x at_ size : Int} (hx : W64 x) (hc : ¬ (at_ < 0 ∨ 63 < at_ ∨ size < 1)) :
    bits .and .u64 (x / 2 ^ at_.toNat) (fmask (fcut at_ size)) = fget x at_ size := by
  obtain ⟨a, n, rfl, ha, hn, han, hmin, hcut⟩ := field_nat hc
  obtain ⟨x, rfl⟩ := Int.eq_ofNat_of_zero_le hx.1
  have hx2 := hx.2
  have h1 : x / 2 ^ a ≤ x := Nat.div_le_self _ _
  have h2 : (2 : Nat) ^ n ≤ 2 ^ 64 := Nat.pow_le_pow_right (by omega) (by omega)
  rw [fget_nat x hc hmin, hcut, Int.toNat_natCast, fmask_nat hn (by omega)]
  have e : (x : Int) / 2 ^ a = ((x / 2 ^ a : Nat) : Int) := by simp
  rw [e, u64_and_nat _ _ (by omega) (by omega), Nat.and_two_pow_sub_one_eq_mod]

theorem fget_bound {x at_ size : Int} (hx : W64 x) : W64 (fget x at_ size) := by
  by_cases hc : at_ < 0 ∨ 63 < at_ ∨ size < 1
  · have : fget x at_ size = 0 := if_pos hc
    rw [this]; exact ⟨by omega, by omega⟩
  · obtain ⟨a, n, rfl, ha, hn, han, hmin, hcut⟩ := field_nat hc
    obtain ⟨x, rfl⟩ := Int.eq_ofNat_of_zero_le hx.1
    rw [fget_nat x hc hmin]
    have h1 : x / 2 ^ a ≤ x := Nat.div_le_self _ _
    have h2 : x / 2 ^ a % 2 ^ n ≤ x / 2 ^ a := Nat.mod_le _ _
    have := hx.2
    exact ⟨by omega, by omega⟩
theorem fput_bound {x at_ size v : Int} (hx : W64 x) (hv : W64 v) : W64 (fput x at_ size v) := by
  by_cases hc : at_ < 0 ∨ 63 < at_ ∨ size < 1
  · have : fput x at_ size v = x := if_pos hc
    rw [this]; exact hx
  · obtain ⟨a, n, rfl, ha, hn, han, hmin, hcut⟩ := field_nat hc
    obtain ⟨x, rfl⟩ := Int.eq_ofNat_of_zero_le hx.1
    obtain ⟨v, rfl⟩ := Int.eq_ofNat_of_zero_le hv.1
    rw [fput_nat x v hc hmin, nat_put_sum]
    have h2 : 2 ^ a * (2 ^ n * (x / 2 ^ a / 2 ^ n) + v % 2 ^ n) + x % 2 ^ a < 2 ^ 64 := by
      apply Nat.lt_pow_two_of_testBit
      intro i hi
      rw [nat_put_bit, if_neg (by omega)]
      have := hx.2
      exact Nat.testBit_lt_two_pow (Nat.lt_of_lt_of_le (show x < 2 ^ 64 by omega) (Nat.pow_le_pow_right (by omega) hi))
    exact ⟨by omega, by omega⟩
theorem fmask_bound (n : Int) : W64 (fmask n) := by
  unfold fmask
  by_cases h : n < 1
  · rw [if_pos h]; exact ⟨by omega, by omega⟩
  · rw [if_neg h]
    by_cases h2 : 64 ≤ n
    · rw [if_pos h2]; exact ⟨by omega, by omega⟩
    · rw [if_neg h2]
      have h3 : (2 : Nat) ^ n.toNat ≤ 2 ^ 63 := Nat.pow_le_pow_right (by omega) (by omega)
      have h0 : 0 < (2 : Nat) ^ n.toNat := Nat.two_pow_pos _
      have e : (2 : Int) ^ n.toNat = ((2 ^ n.toNat : Nat) : Int) := by simp
      rw [e]
      exact ⟨by omega, by omega⟩

/-- Fields at given places: 'by simpa using fget_at w 16 48 (by omega)'. -/
theorem fget_at (w : Int) (a n : Nat) (h : 1 ≤ n ∧ a + n ≤ 64) : fget w a n = w / 2 ^ a % 2 ^ n := by
  unfold fget
  rw [if_neg (by omega)]
  have e : (min (n : Int) (64 - (a : Int))).toNat = n := by omega
  rw [e, Int.toNat_natCast]
theorem fput_at (w v : Int) (a n : Nat) (h : 1 ≤ n ∧ a + n ≤ 64) : fput w a n v = w - w / 2 ^ a % 2 ^ n * 2 ^ a + v % 2 ^ n * 2 ^ a := by
  unfold fput
  rw [if_neg (by omega)]
  have e : (min (n : Int) (64 - (a : Int))).toNat = n := by omega
  rw [e, Int.toNat_natCast]
end Go.Proofs.YtokcbipmocpllaaDoor

/-
  Package field: contracts.
-/
namespace Go.Proofs.YtokcbipmocpllaaDoor
open Go.RowKit

set_option maxHeartbeats 400000 in
theorem cut_any (at_ size : Int) (w : World) (ha : I64 at_) (hs : I64 size) :
    Calls Tryd.prog 84 #[.int .i64 at_, .int .i64 size] w fun r w' => r = .returned (.int .i64 (fcut at_ size)) ∧ w = w' := by
  obtain ⟨h0, h1⟩ := ha
  obtain ⟨h2, h3⟩ := hs
  by_cases hc : at_ < 0 ∨ 63 < at_ ∨ size < 1
  · have e : fcut at_ size = 0 := if_pos hc
    rw [e]
    clear e
    rcases hc with hc | hc | hc
    · go_enter Tryd.func84, Tryd.ntmps84
      go_wp2
      go_ret
      exact ⟨rfl, rfl⟩
    · by_cases h : at_ < 0
      · omega
      go_enter Tryd.func84, Tryd.ntmps84
      go_wp2
      go_ret
      exact ⟨rfl, rfl⟩
    · by_cases h : at_ < 0
      · go_enter Tryd.func84, Tryd.ntmps84
        go_wp2
        go_ret
        exact ⟨rfl, rfl⟩
      by_cases h' : 63 < at_
      · go_enter Tryd.func84, Tryd.ntmps84
        go_wp2
        go_ret
        exact ⟨rfl, rfl⟩
      go_enter Tryd.func84, Tryd.ntmps84
      go_wp2
      go_ret
      exact ⟨rfl, rfl⟩
  · have e : fcut at_ size = min size (64 - at_) := if_neg hc
    have E := hide e
    clear e
    have h4 : 0 ≤ at_ := by omega
    have h5 : at_ ≤ 63 := by omega
    have h6 : 1 ≤ size := by omega
    clear hc
    by_cases hm : size ≤ 64 - at_
    · go_enter Tryd.func84, Tryd.ntmps84
      go_wp2
      go_ret
      exact ⟨by rw [E.out, Int.min_eq_left hm]; rfl, rfl⟩
    · go_enter Tryd.func84, Tryd.ntmps84
      go_wp2
      go_ret
      exact ⟨by rw [E.out, Int.min_eq_right (by omega)]; rfl, rfl⟩

set_option maxHeartbeats 400000 in
theorem mask_any (size : Int) (w : World) (hs : I64 size) :
    Calls Tryd.prog 85 #[.int .i64 size] w fun r w' => r = .returned (.int .u64 (fmask size)) ∧ w = w' := by
  obtain ⟨h2, h3⟩ := hs
  by_cases h0 : size < 1
  · have E := hide (show fmask size = 0 from if_pos h0)
    go_enter Tryd.func85, Tryd.ntmps85
    go_wp2
    go_ret
    exact ⟨by rw [E.out]; rfl, rfl⟩
  by_cases h1 : 64 ≤ size
  · have E := hide (show fmask size = 18446744073709551615 by unfold fmask; rw [if_neg h0, if_pos h1])
    go_enter Tryd.func85, Tryd.ntmps85
    go_wp2
    go_ret
    exact ⟨by rw [E.out]; rfl, rfl⟩
  · have E := hide (show fmask size = 2 ^ size.toNat - 1 by unfold fmask; rw [if_neg h0, if_neg h1])
    have h4 : 1 ≤ size := by omega
    have h5 : size ≤ 63 := by omega
    have B := hide (show IntKind.u64.wrap (IntKind.u64.wrap (2 ^ size.toNat) - 1) = 2 ^ size.toNat - 1 by
      have : (2 : Nat) ^ size.toNat ≤ 2 ^ 63 := Nat.pow_le_pow_right (by omega) (by omega)
      have h0 : 0 < (2 : Nat) ^ size.toNat := Nat.two_pow_pos _
      have e : (2 : Int) ^ size.toNat = ((2 ^ size.toNat : Nat) : Int) := by simp
      rw [e]
      generalize (2 : Nat) ^ size.toNat = p at *
      simp only [IntKind.wrap_u64]
      omega)
    go_enter Tryd.func85, Tryd.ntmps85
    go_wp2
    go_ret
    exact ⟨by rw [E.out, ← B.out]; rfl, rfl⟩

set_option maxHeartbeats 400000 in
theorem put_any (x at_ size v : Int) (w : World) (hx : W64 x) (ha : I64 at_) (hs : I64 size) (hv : W64 v) :
    Calls Tryd.prog 103 #[.int .u64 x, .int .i64 at_, .int .i64 size, .int .u64 v] w fun r w' => r = .returned (.int .u64 (fput x at_ size v)) ∧ w = w' := by
  by_cases hc : at_ < 0 ∨ 63 < at_ ∨ size < 1
  · have e : fcut at_ size = 0 := if_pos hc
    have e2 : fput x at_ size v = x := if_pos hc
    rw [e2]
    clear e2
    have C := hide (cut_any at_ size)
    rw [e] at C
    clear e
    go_enter Tryd.func103, Tryd.ntmps103
    go_wp2_with fail
    refine (C.out _ ha hs).mono ?_
    rintro e w' ⟨rfl, rfl⟩
    go_wp2_with fail
    go_ret
    exact ⟨rfl, rfl⟩
  · have P := hide (put_bits hx hv hc)
    have C := hide (cut_any at_ size w ha hs)
    have n1 : 1 ≤ fcut at_ size := by unfold fcut; rw [if_neg hc]; omega
    have n2 : fcut at_ size ≤ 64 := by unfold fcut; rw [if_neg hc]; omega
    generalize fcut at_ size = n at *
    have M := hide (mask_any n w ⟨by omega, by omega⟩)
    have h4 : 0 ≤ at_ := by omega
    have h5 : at_ ≤ 63 := by omega
    obtain ⟨m1, m2⟩ := fmask_bound n
    generalize fmask n = m at *
    obtain ⟨h6, h7⟩ := hx
    obtain ⟨h8, h9⟩ := hv
    go_enter Tryd.func103, Tryd.ntmps103
    go_wp2_with fail
    refine C.out.mono ?_
    rintro e w' ⟨rfl, rfl⟩
    go_wp2_with fail
    refine M.out.mono ?_
    rintro e w' ⟨rfl, rfl⟩
    go_wp2_with fail
    go_ret
    exact ⟨by rw [← P.out]; rfl, rfl⟩

set_option maxHeartbeats 400000 in
theorem get_any (x at_ size : Int) (w : World) (hx : W64 x) (ha : I64 at_) (hs : I64 size) :
    Calls Tryd.prog 57 #[.int .u64 x, .int .i64 at_, .int .i64 size] w fun r w' => r = .returned (.int .u64 (fget x at_ size)) ∧ w = w' := by
  by_cases hc : at_ < 0 ∨ 63 < at_ ∨ size < 1
  · have e : fcut at_ size = 0 := if_pos hc
    have e2 : fget x at_ size = 0 := if_pos hc
    rw [e2]
    clear e2
    have C := hide (cut_any at_ size)
    rw [e] at C
    clear e
    go_enter Tryd.func57, Tryd.ntmps57
    go_wp2_with fail
    refine (C.out _ ha hs).mono ?_
    rintro e w' ⟨rfl, rfl⟩
    go_wp2_with fail
    go_ret
    exact ⟨rfl, rfl⟩
  · have P := hide (get_bits hx hc)
    have C := hide (cut_any at_ size w ha hs)
    have n1 : 1 ≤ fcut at_ size := by unfold fcut; rw [if_neg hc]; omega
    have n2 : fcut at_ size ≤ 64 := by unfold fcut; rw [if_neg hc]; omega
    generalize fcut at_ size = n at *
    have M := hide (mask_any n w ⟨by omega, by omega⟩)
    have h4 : 0 ≤ at_ := by omega
    have h5 : at_ ≤ 63 := by omega
    obtain ⟨m1, m2⟩ := fmask_bound n
    generalize fmask n = m at *
    obtain ⟨h6, h7⟩ := hx
    go_enter Tryd.func57, Tryd.ntmps57
    go_wp2_with fail
    refine C.out.mono ?_
    rintro e w' ⟨rfl, rfl⟩
    go_wp2_with fail
    refine M.out.mono ?_
    rintro e w' ⟨rfl, rfl⟩
    go_wp2_with fail
    go_ret
    exact ⟨by rw [← P.out]; rfl, rfl⟩

end Go.Proofs.YtokcbipmocpllaaDoor

/-
  handle.Slot and its reference.
-/
namespace Go.Proofs.YtokcbipmocpllaaDoor
open Go.RowKit

theorem fget_slot {h : Int} (_ : W64 h) : fget h 0 16 = h % 65536 := by
  have e1 : fget h 0 16 = h / 2 ^ (0 : Int).toNat % 2 ^ (min 16 (64 - 0) : Int).toNat := if_neg (by omega)
  rw [e1]
  have e2 : (min 16 (64 - 0) : Int).toNat = 16 := by decide
  rw [e2]
  simp

set_option maxHeartbeats 400000 in
theorem Slot_any (h : Int) (w : World) (hh : W64 h) :
    Calls Tryd.prog 32 #[.int .u64 h] w fun r w' => r = .returned (.int .i64 (h % 65536)) ∧ w = w' := by
  have G := hide (get_any h 0 16 w hh ⟨by omega, by omega⟩ ⟨by omega, by omega⟩)
  rw [fget_slot hh] at G
  have b1 : 0 ≤ h % 65536 := by omega
  have b2 : h % 65536 < 65536 := by omega
  generalize h % 65536 = y at *
  go_enter Tryd.func32, Tryd.ntmps32
  go_wp2_with fail
  refine G.out.mono ?_
  rintro e w' ⟨rfl, rfl⟩
  go_wp2_with fail
  go_ret
  exact ⟨rfl, rfl⟩
set_option maxHeartbeats 400000 in
theorem RSlot_any (h : Int) (w : World) (hh : W64 h) :
    Calls Tryd.prog 7 #[.int .u64 h] w fun r w' => r = .returned (.int .i64 (h % 65536)) ∧ w = w' := by
  obtain ⟨h0, h1⟩ := hh
  have b1 : 0 ≤ h % 65536 := by omega
  have b2 : h % 65536 < 65536 := by omega
  go_enter Tryd.func7, Tryd.ntmps7
  go_wp2_with fail
  go_ret
  exact ⟨rfl, rfl⟩
end Go.Proofs.YtokcbipmocpllaaDoor

/-
  limbo.Part, limbo.Without, limbo.Handles.
-/
namespace Go.Proofs.YtokcbipmocpllaaDoor
open Go.RowKit

set_option maxHeartbeats 400000 in
theorem part1_any (h e ep : Int) (w : World) (g : Nat) (he : W64 e) (hp : W64 ep) (hc : w.cell? ⟨g, 0, none⟩ = some (.int .u64 ep)) :
    Calls Tryd.prog 89 #[.agg #[.int .u64 h, .int .u64 e], .pointer (some ⟨g, 0, none⟩)] w fun r w' => r = .returned (.bool (ripeB e ep)) ∧ Below w.heap.size w w' := by
  have hg := World.block_lt_of_cell? w ⟨g, 0, none⟩ hc
  simp only at hg
  go_enter Tryd.func89, Tryd.ntmps89
  go_wp2_with fail
  refine (Ripe_any _ _ _ _ he hp).mono ?_
  rintro e w' ⟨rfl, hb⟩
  go_wp2_with fail
  go_ret
  exact ⟨rfl, ((Below.refl _ _).alloc (Nat.le_refl _) _).trans (hb.mono (by simp))⟩

set_option maxHeartbeats 400000 in
theorem Part_any (A : Option Addr) (n c : Nat) (l : List (Int × Int)) (ep : Int) (w : World) (hn : n ≤ 1000) (hr : Reads w w.heap.size 2 A n (rec2 l)) (hw : ∀ r ∈ l, W64 r.1 ∧ W64 r.2) (hp : W64 ep) :
    Calls Tryd.prog 66 #[.slice A n c, .int .u64 ep] w fun e w' => (∃ A1 n1 c1 A2 n2 c2, e = .returned (.tuple #[.slice A1 n1 c1, .slice A2 n2 c2]) ∧ n1 = (l.filter (fun r => ripeB r.2 ep)).length ∧ n2 = (l.filter (fun r => !ripeB r.2 ep)).length ∧
      Reads w' w'.heap.size 2 A1 n1 (rec2 (l.filter fun r => ripeB r.2 ep)) ∧ Reads w' w'.heap.size 2 A2 n2 (rec2 (l.filter fun r => !ripeB r.2 ep))) ∧ Below w.heap.size w w' := by
  go_enter Tryd.func66, Tryd.ntmps66
  go_wp2_with fail
  refine (parted_rec A n c l 89 #[.pointer (some ⟨w.heap.size, 0, none⟩)] (fun r => ripeB r.2 ep) _ hr.lenPair hn ((hr.alloc (Nat.le_refl _) _).more (by simp)) (fun args w' => run_enter Tryd.func89 (by decide) (by simp [Tryd.f89]) args w') ?_).mono ?_
  · intro x hx w' hb
    refine part1_any x.1 x.2 ep w' w.heap.size (hw x hx).2 hp ?_
    obtain ⟨h1, _⟩ := bcell hb
    rw [h1 _ _ (by simp)]
    simp [go_sem]
  · rintro e w2 ⟨⟨A1, n1, c1, A2, n2, c2, rfl, e1, e2, r1, r2⟩, hb2⟩
    have E1 := hide e1
    have E2 := hide e2
    clear e1 e2
    go_wp2_with fail
    go_ret2
    exact ⟨⟨A1, n1, c1, A2, n2, c2, rfl, E1.out, E2.out, r1, r2⟩, ((Below.refl _ _).alloc (Nat.le_refl _) _).trans (hb2.mono (by simp))⟩

def HandIn (n : Nat) (l : List (Int × Int)) (w : World) (v1 i : Value) (wr : World) : Prop :=
  ∃ (k : Nat) (A1 : Option Addr) (c1 : Nat), i = .int .i64 k ∧ k ≤ n ∧ v1 = .slice A1 k c1 ∧ Below w.heap.size w wr ∧
    wr.ownsRow w.heap.size 29 1 (.slice A1 k c1) k (ints .u64 ((l.take k).map (·.1)))

set_option maxHeartbeats 400000 in
theorem Handles_any (A : Option Addr) (n c : Nat) (l : List (Int × Int)) (w : World) (hn : n ≤ 1000) (hr : Reads w w.heap.size 2 A n (rec2 l)) :
    Calls Tryd.prog 31 #[.slice A n c] w fun e w' => (∃ A1 c1, e = .returned (.slice A1 n c1) ∧ Reads w' w'.heap.size 1 A1 n (ints .u64 (l.map (·.1)))) ∧ Below w.heap.size w w' := by
  obtain ⟨i0, hi0, hz0, hs0, hb0⟩ := info_parts infoU64
  go_enter Tryd.func31, Tryd.ntmps31
  go_wp2_with fail
  go_loopw [3, 8] (HandIn n l w) (fun _ i _ => n - (intOf i).toNat)
  case atStart => exact ⟨0, none, 0, rfl, by omega, rfl, Below.refl _ _, World.ownsRow_nil _ _ _ _⟩
  case round =>
    obtain ⟨k, A1, c1, rfl, hk, rfl, hb, hown1⟩ := hrel
    by_cases hlt : k < n
    · obtain ⟨a, rfl, hkl, z1, z2⟩ := (hr.below hb).pair hlt
      have Htk := hide (take_snoc' l k hkl)
      generalize l[k] = x at *
      obtain ⟨h0, e0⟩ := x
      simp only at z1 z2
      have hzw := hb.size
      have ho1 := (hown1.alloc (.cells #[.int .u64 h0, .int .u64 e0] 31)).alloc (.cells #[.int .u64 h0] 29)
      have hbk := Blk.new (wr.alloc (.cells #[.int .u64 h0, .int .u64 e0] 31)) 29 #[.int .u64 h0]
      simp only [World.size_alloc] at hbk
      go_wp2_with (at_builtin; refine wpList_append_one rfl (.tmp 12) (.tmp 15) _ rfl w.heap.size 29 i0 _ 1 8 Tryd.underlying23 hi0 hz0 hs0 hb0 rfl (by omega) (by omega) (.slice A1 k c1) k _ rfl ho1 (wr.heap.size + 1) #[.int .u64 h0] rfl hbk rfl rfl (by omega) (by simp; omega) ?_; intro A3 c3 w3 hown3 hg3 hat3)
      have hb3 := below_appended ((hb.alloc (by omega) _).alloc (by simp; omega) _) ho1 hg3 (Nat.le_refl _) (by simp; omega)
      go_roundw
      case measure => simp [intOf]; omega
      case rel => exact ⟨k + 1, A3, c3, by go_num, by omega, rfl, hb3, by rw [Htk.out, List.map_append, ints_append]; exact hown3⟩
    · obtain rfl : k = n := by omega
      have e : l.take k = l := List.take_of_length_le (by have := hr.lenPair; omega)
      rw [e] at hown1
      clear e
      go_wp2_with fail
      go_ret
      exact ⟨⟨A1, c1, rfl, Reads.of_own hown1⟩, hb⟩
end Go.Proofs.YtokcbipmocpllaaDoor

/-
  Slices of words: Clone, part.
-/
namespace Go.Proofs.YtokcbipmocpllaaDoor
open Go.RowKit

/-- v is a slice that reads as these words, its array below block B. -/
def Sl (w : World) (B : Nat) (v : Value) (xs : List Int) : Prop := ∃ A c, v = .slice A xs.length c ∧ xs.length ≤ c ∧ c ≤ 9223372036854775807 ∧ Reads w B 1 A xs.length (ints .u64 xs)
theorem Sl.below {w w' : World} {B : Nat} {v : Value} {xs : List Int} (h : Sl w B v xs) (hb : Below B w w') : Sl w' B v xs := by
  obtain ⟨A, c, h1, h2, h3, h4⟩ := h
  exact ⟨A, c, h1, h2, h3, h4.below hb⟩
theorem Sl.more {w : World} {B B' : Nat} {v : Value} {xs : List Int} (h : Sl w B v xs) (hB : B ≤ B') : Sl w B' v xs := by
  obtain ⟨A, c, h1, h2, h3, h4⟩ := h
  exact ⟨A, c, h1, h2, h3, h4.more hB⟩
theorem ints_one {κ : IntKind} (l : List Int) : ∀ u ∈ ints κ l, u.oneCell' = true := by
  intro u hu
  unfold ints at hu
  obtain ⟨x, _, rfl⟩ := List.mem_map.1 hu
  rfl
theorem Sl.nil (w : World) (B : Nat) : Sl w B (.slice none 0 0) [] := ⟨none, 0, rfl, Nat.le_refl _, by omega, Reads.none_⟩

theorem Sl.of_own {w : World} {B n : Nat} {e : TypeId} {xs : List Int} {v : Value} (h : w.ownsRow B e 1 v n (ints .u64 xs)) : Sl w w.heap.size v xs := by
  have hn : xs.length = n := by have := h.1; rw [ints_len] at this; omega
  subst hn
  rcases h.2 with ⟨rfl, h0⟩ | ⟨g, cap, cur, rfl, _, _, hc, hm, _⟩
  · have : xs = [] := List.eq_nil_of_length_eq_zero h0
    subst this
    exact Sl.nil _ _
  · exact ⟨_, _, rfl, hc, by unfold maxLen at hm; omega, Reads.of_own h⟩

/-- v is a slice of these words, its array in a block from lo on, at its head. -/
def Own (w : World) (lo : Nat) (v : Value) (xs : List Int) : Prop := w.ownsRow lo 29 1 v xs.length (ints .u64 xs)
theorem Own.nil (w : World) (lo : Nat) : Own w lo (.slice none 0 0) [] := World.ownsRow_nil _ _ _ _
theorem Own.of {w : World} {lo n : Nat} {v : Value} {xs : List Int} (h : w.ownsRow lo 29 1 v n (ints .u64 xs)) : Own w lo v xs := by
  have hn : xs.length = n := by have := h.1; rw [ints_len] at this; omega
  unfold Own
  rw [hn]
  exact h
theorem Own.below {w w' : World} {lo : Nat} {v : Value} {xs : List Int} (h : Own w lo v xs) (hb : Below w.heap.size w w') : Own w' lo v xs := own_below h hb
theorem Own.mono {w : World} {lo lo' : Nat} {v : Value} {xs : List Int} (h : Own w lo v xs) (hl : lo' ≤ lo) : Own w lo' v xs := own_mono h hl
theorem Own.far {w : World} {lo : Nat} {v : Value} {xs : List Int} (h : Own w lo v xs) {p : Addr} (hp : p.block < lo) (u : Value) : Own (w.setCell p u) lo v xs := own_setCell_far h hp u
theorem Own.sl {w : World} {lo : Nat} {v : Value} {xs : List Int} (h : Own w lo v xs) : Sl w w.heap.size v xs := Sl.of_own h
theorem Own.drew {w : World} {lo : Nat} {v : Value} {xs : List Int} (h : Own w lo v xs) : Own w.drew lo v xs := h
theorem Own.val {w : World} {lo : Nat} {v : Value} {xs : List Int} (h : Own w lo v xs) : ∃ A c, v = .slice A xs.length c := by
  obtain ⟨A, c, h1, _⟩ := h.sl
  exact ⟨A, c, h1⟩

set_option maxHeartbeats 400000 in
theorem clone_any (v : Value) (xs : List Int) (w : World) (hl : xs.length ≤ 1000000) (h : Sl w w.heap.size v xs) :
    Calls Tryd.prog 55 #[v] w fun e w' => (∃ u, e = .returned u ∧ Own w' w.heap.size u xs) ∧ Below w.heap.size w w' := by
  obtain ⟨i0, hi0, hz0, hs0, hb0⟩ := info_parts infoU64
  obtain ⟨A, c, rfl, h1, h2, h3⟩ := h
  have q22 : ∀ (w : World) (a : Option Addr) (n c n' c' : Nat), (binOp .eql 23 (.slice a n c) (.slice none n' c')).run Tryd.prog w = .ok (.bool a.isNone) w := fun w a n c n' c' => Lib.run_eql_slice_nil w _ _ a n c n' c' Tryd.underlying23
  rcases A with _ | a
  · have hx : xs = [] := by
      rcases xs with _ | ⟨x, xs⟩
      · rfl
      · obtain ⟨ad, h, _⟩ := h3.2 (by simp)
        cases h
    subst hx
    go_enter Tryd.func55, Tryd.ntmps55
    go_wp2_with fail
    go_ret
    exact ⟨⟨_, rfl, Own.nil _ _⟩, Below.refl _ _⟩
  · go_enter Tryd.func55, Tryd.ntmps55
    have ho : (w.alloc (.cells #[] 29)).ownsRow w.heap.size 29 1 (.slice (some ⟨w.heap.size, 0, none⟩) 0 0) 0 [] := World.ownsRow_made w #[] 0 (Nat.le_refl _) (Nat.zero_le _) rfl
    have hr1 := h3.alloc (Nat.le_refl _) (.cells #[] 29)
    go_wp2_with (at_builtin; refine wpList_append_any _ rfl (.tmp 5) (.tmp 6) _ rfl w.heap.size 29 i0 _ 1 8 Tryd.underlying23 hi0 hz0 hs0 hb0 rfl (by omega) _ 0 [] rfl ho w.heap.size (some a) xs.length c (ints .u64 xs) rfl hr1 (ints_one _) (by unfold maxLen; omega) (by omega) (by simp) ?_; intro v3 w3 hown3 hg3 hat3)
    go_ret
    exact ⟨⟨_, rfl, Own.of (n := 0 + xs.length) (by simpa using hown3)⟩, below_appended ((Below.refl _ _).alloc (Nat.le_refl _) _) ho hg3 (Nat.le_refl _) (by simp)⟩

set_option maxRecDepth 100000 in
set_option maxHeartbeats 400000 in
theorem grow_any (n : Nat) (w : World) (hn : n ≤ 1000000) :
    Calls Tryd.prog 56 #[.slice none 0 0, .int .i64 n] w fun e w' => (∃ v, e = .returned v ∧ w'.ownsRow w.heap.size 29 1 v 0 []) ∧ Below w.heap.size w w' := by
  obtain ⟨i0, hi0, hz0, hs0, hb0⟩ := info_parts infoU64
  by_cases h0 : n = 0
  · subst h0
    go_enter Tryd.func56, Tryd.ntmps56
    go_wp2_with fail
    go_ret
    exact ⟨⟨_, rfl, World.ownsRow_nil _ _ _ _⟩, Below.refl _ _⟩
  · have hpos : 0 < n := by omega
    have hge : n ≤ grownCap w n 0 29 := grownCap_ge w _ _ _
    have hG : grownCap w n 0 29 ≤ maxLen := grownCap_le_maxLen w n 0 _ (by unfold maxLen; omega)
    have hrz := fun ty => Lib.run_append_nil_zeros (P := Tryd.prog) w 23 3 ty 29 i0 (.int .u64 0) .i64 .i64 Tryd.underlying23 Tryd.underlying3 hi0 hz0 n hpos (by omega) (by omega) (by rw [hb0]; omega)
    generalize grownCap w n 0 29 = G at *
    have hown : (w.drew.alloc (.cells (Builtin.zeroCells (Value.int .u64 0).cells n ++ Builtin.zeroCells (Value.int .u64 0).cells (G - n)) 29)).ownsRow w.heap.size 29 1 (.slice (some ⟨w.heap.size, 0, none⟩) 0 G) 0 [] :=
      World.ownsRow_made w.drew _ G (Nat.le_refl _) hG (by simp only [Array.size_append, size_zeroCells]; have : (Value.int .u64 0).cells.size = 1 := rfl; rw [this]; omega)
    have hbel : Below w.heap.size w (w.drew.alloc (.cells (Builtin.zeroCells (Value.int .u64 0).cells n ++ Builtin.zeroCells (Value.int .u64 0).cells (G - n)) 29)) := (Below.refl _ _).drew.alloc (Nat.le_refl _) _
    generalize w.drew.alloc (.cells (Builtin.zeroCells (Value.int .u64 0).cells n ++ Builtin.zeroCells (Value.int .u64 0).cells (G - n)) 29) = w2 at *
    have hG63 : G ≤ 9223372036854775807 := by unfold maxLen at hG; omega
    go_enter Tryd.func56, Tryd.ntmps56
    go_wp2_with (at_builtin; refine Lib.wpList_append_run _ rfl _ _ _ _ rfl _ _ rfl rfl _ _ (hrz _) ?_)
    go_ret
    exact ⟨⟨_, rfl, hown⟩, hbel⟩

def catTo (ps : List (Value × List Int)) (k : Nat) : List Int := (ps.take k).flatMap (·.2)
theorem catTo_succ (ps : List (Value × List Int)) (k : Nat) (h : k < ps.length) : catTo ps (k + 1) = catTo ps k ++ ps[k].2 := by
  unfold catTo
  rw [List.take_succ_eq_append_getElem h, List.flatMap_append]
  simp
theorem catTo_len (ps : List (Value × List Int)) (k : Nat) : (catTo ps k).length ≤ (ps.flatMap (·.2)).length := by
  have h : ps.flatMap (·.2) = catTo ps k ++ (ps.drop k).flatMap (·.2) := by
    unfold catTo
    rw [← List.flatMap_append, List.take_append_drop]
  rw [h, List.length_append]
  omega
theorem catTo_all (ps : List (Value × List Int)) (k : Nat) (h : ps.length ≤ k) : catTo ps k = ps.flatMap (·.2) := by
  unfold catTo
  rw [List.take_of_length_le h]

def CatA (ps : List (Value × List Int)) (w : World) (v3 i : Value) (wr : World) : Prop :=
  ∃ (k m : Nat), i = .int .i64 k ∧ k ≤ ps.length ∧ v3 = .int .i64 m ∧ m = (catTo ps k).length ∧ Below w.heap.size w wr
def CatB (ps : List (Value × List Int)) (w : World) (v6 i : Value) (wr : World) : Prop :=
  ∃ (k n1 : Nat), i = .int .i64 k ∧ k ≤ ps.length ∧ wr.ownsRow w.heap.size 29 1 v6 n1 (ints .u64 (catTo ps k)) ∧ n1 = (catTo ps k).length ∧ Below w.heap.size w wr

set_option maxRecDepth 100000 in
set_option maxHeartbeats 1000000 in
theorem concat_any (ps : List (Value × List Int)) (A : Option Addr) (n c : Nat) (w : World) (hn : ps.length = n) (hn9 : n ≤ 9) (hr : Reads w w.heap.size 1 A n (ps.map (·.1)))
    (hp : ∀ p ∈ ps, Sl w w.heap.size p.1 p.2) (hl : (ps.flatMap (·.2)).length ≤ 1000000) :
    Calls Tryd.prog 30 #[.slice A n c] w fun e w' => (∃ u, e = .returned u ∧ Own w' w.heap.size u (ps.flatMap (·.2))) ∧ Below w.heap.size w w' := by
  obtain ⟨i0, hi0, hz0, hs0, hb0⟩ := info_parts infoU64
  go_enter Tryd.func30, Tryd.ntmps30
  go_wp2_with fail
  go_loopw [3, 11] (CatA ps w) (fun _ i _ => 100 - (intOf i).toNat)
  case atStart => exact ⟨0, 0, rfl, by omega, rfl, rfl, Below.refl _ _⟩
  case round =>
    obtain ⟨k, m, rfl, hk, rfl, hm, hb⟩ := hrel
    by_cases hlt : k < n
    · obtain ⟨ad, u, rfl, hab, hu, hc⟩ := (hr.below hb).at_ hlt
      have hkl : k < ps.length := by omega
      have hu2 : (ps.map (·.1))[k]? = some ps[k].1 := by simp [hkl]
      rw [hu2] at hu
      injection hu with hu
      subst hu
      obtain ⟨A1, c1, e1, h1, h2, h3⟩ := hp ps[k] (List.getElem_mem hkl)
      rw [e1] at hc
      have hs := catTo_succ ps k hkl
      have hm1 := catTo_len ps (k + 1)
      have hm2 : (catTo ps (k + 1)).length = m + ps[k].2.length := by rw [hs, List.length_append, hm]
      clear hs e1
      generalize ps[k].2 = xs at *
      have x1 : xs.length ≤ 1000000 := by omega
      have x2 : m ≤ 1000000 := by omega
      have Hm2 := hide hm2
      clear hm2 hm hm1
      generalize xs.length = q at *
      go_wp2_with fail
      go_roundw
      case measure => simp [intOf]; omega
      case rel => exact ⟨k + 1, m + q, by go_num, by omega, by go_num, Hm2.out.symm, hb⟩
    · have hall := catTo_all ps k (by omega)
      rw [hall] at hm
      have Hm := hide hm
      have Gr := hide (grow_any m wr (by omega))
      clear hm
      go_wp2_with fail
      refine Gr.out.mono ?_
      rintro e w2 ⟨⟨v, rfl, hown⟩, hb2⟩
      have hb3 := hb.trans (hb2.mono hb.size)
      have hown := own_mono hown hb.size
      go_wp2_with fail
      go_loopw [6, 27] (CatB ps w) (fun _ i _ => 100 - (intOf i).toNat)
      case atStart => exact ⟨0, 0, rfl, by omega, hown, rfl, hb3⟩
      case round =>
        clear hown hb3 hb2
        clear hlt hall Hm Gr hk
        obtain ⟨j, n1, rfl, hk, hown, hn1, hbj⟩ := hrel
        by_cases hlt : j < n
        · obtain ⟨ad, u, rfl, hab, hu, hc⟩ := (hr.below hbj).at_ hlt
          have hkl : j < ps.length := by omega
          have hu2 : (ps.map (·.1))[j]? = some ps[j].1 := by simp [hkl]
          rw [hu2] at hu
          injection hu with hu
          subst hu
          obtain ⟨A1, c1, e1, h1, h2, h3⟩ := hp ps[j] (List.getElem_mem hkl)
          have h3 := h3.below hbj
          rw [e1] at hc
          have hs := catTo_succ ps j hkl
          have hm1 := catTo_len ps (j + 1)
          have hm2 : (catTo ps (j + 1)).length = n1 + ps[j].2.length := by rw [hs, List.length_append, hn1]
          clear e1 hu2
          generalize ps[j].2 = xs at *
          have Hs := hide hs
          have x1 : n1 + xs.length ≤ 1000000 := by omega
          have Hm2 := hide hm2
          have hsz := hbj.size
          clear hm2 hm1 hn1 hs
          go_wp2_with (at_builtin; refine wpList_append_any _ rfl (.tmp 31) (.tmp 32) _ rfl w.heap.size 29 i0 _ 1 8 Tryd.underlying23 hi0 hz0 hs0 hb0 rfl (by omega) u6 n1 _ rfl hown w.heap.size A1 xs.length c1 (ints .u64 xs) rfl h3 (ints_one _) (by unfold maxLen; omega) (by omega) hsz ?_; intro v3 w3 hown3 hg3 hat3)
          have hb4 := below_appended hbj hown hg3 (Nat.le_refl _) hsz
          go_roundw
          case measure => simp [intOf]; omega
          case rel => exact ⟨j + 1, n1 + xs.length, by go_num, by omega, by rw [Hs.out, ints_append]; exact hown3, Hm2.out.symm, hb4⟩
        · have hall := catTo_all ps j (by omega)
          rw [hall] at hown
          go_wp2_with fail
          go_ret
          exact ⟨⟨_, rfl, Own.of hown⟩, hbj⟩

theorem reads_prefix' {w : World} {B n m : Nat} {A : Option Addr} {l : List Int} {κ : IntKind} (h : Reads w B 1 A n (ints κ l)) (hm : m ≤ n) : Reads w B 1 A m (ints κ (l.take m)) := by
  have hl := h.lenWord
  refine ⟨by rw [ints_len, List.length_take]; omega, fun h0 => ?_⟩
  obtain ⟨ad, e, hb, hc⟩ := h.2 (by omega)
  refine ⟨ad, e, hb, fun j u hu => hc j u ?_⟩
  unfold ints at *
  rw [List.map_take, List.getElem?_take] at hu
  split at hu
  · exact hu
  · cases hu
/-- l[from:to:to], cloned. -/
def cutL (l : List Int) (a b : Nat) : List Int := (l.take b).drop a
theorem cutL_len (l : List Int) (a b : Nat) (h : b ≤ l.length) : (cutL l a b).length = b - a := by unfold cutL; simp; omega
theorem reads_window {w : World} {B n a b : Nat} {A : Option Addr} {l : List Int} {κ : IntKind} (h : Reads w B 1 A n (ints κ l)) (hab : a < b) (hb : b ≤ n) : Reads w B 1 (A.map (·.add a)) (b - a) (ints κ (cutL l a b)) := by
  have h1 := (reads_prefix' h hb).cut (k := a) (cap := b) (by omega) (Nat.le_refl _)
  rw [if_neg (by omega), Nat.mul_one] at h1
  have e : (ints κ (l.take b)).drop a = ints κ (cutL l a b) := by unfold ints cutL; rw [List.map_drop]
  rw [← e]
  exact h1
end Go.Proofs.YtokcbipmocpllaaDoor

/-
  Regions that draw their order, whose last stores turn the very cells that the region loads: what holds of the world is asked only as long as none of those stores has come up.
-/
namespace Go.Proofs.YtokcbipmocpllaaDoor

section
variable {P : Program} {ops : Array Oper} {Q : Exit → Act → World → Prop} {md : Region.Mode} {S : World → Prop} {zs : List Nat}

/-- One of the last stores has come up. -/
def overZ (zs : List Nat) (l : Array Bool) : Bool := zs.any fun z => l.getD z true

/-- Whatever order is picked from here on, and S holds behind each operation that is carried out, until one of zs has come up. -/
def wpAnyZ (P : Program) (md : Region.Mode) (ops : Array Oper) (Q : Exit → Act → World → Prop) (zs : List Nat) (S : World → Prop) : Nat → Array Bool → Act → World → Prop
  | 0, listed, a, w => Region.ready md ops listed = [] ∧ Q .normal a w
  | fuel + 1, listed, a, w =>
    (Region.ready md ops listed = [] → Q .normal a w) ∧
    ∀ i ∈ Region.ready md ops listed, wpOp P ops Q i (fun a' w' => (overZ zs (listed.setIfInBounds i true) = false → S w') ∧ wpAnyZ P md ops Q zs S fuel (listed.setIfInBounds i true) a' w') a w

theorem wpAny_of_heldZ : ∀ (fuel : Nat) (listed : Array Bool) (a : Act) (w : World), wpAnyZ P md ops Q zs S fuel listed a w → wpAny P md ops Q fuel listed a w
  | 0, _, _, _, h => h
  | fuel + 1, _, _, _, h => ⟨h.1, fun i hi => wpOp_mono (fun a' w' h' => wpAny_of_heldZ fuel _ a' w' h'.2) (h.2 i hi)⟩

/-- Each of B waits, one for the other, for i. -/
def Waits (md : Region.Mode) (ops : Array Oper) (i : Nat) (B : List Nat) : Prop := ∀ k ∈ B, k ≠ i → ∀ o, ops[k]? = some o → ∃ e ∈ o.after, Region.binds md e = true ∧ (e.on = i ∨ e.on ∈ B)
def waitsB (md : Region.Mode) (ops : Array Oper) (listed : Array Bool) (zs : List Nat) (i : Nat) (B : List Nat) : Bool :=
  (B.all fun k => !(k == i) && !listed.getD k true && (match ops[k]? with | some o => o.after.any fun e => Region.binds md e && (e.on == i || B.contains e.on) | none => true)) && (zs.all fun z => B.contains z) && !listed.getD i true
theorem waits_not_ready {i j : Nat} {B : List Nat} {listed : Array Bool} (hW : Waits md ops i B) (hi : listed.getD i false = false) (hB : ∀ k ∈ B, listed.getD k false = false) (hj : j ∈ Region.ready md ops listed) (hji : j ≠ i) : j ∉ B := by
  intro hjB
  obtain ⟨_, o, ho, hall⟩ := mem_ready.1 hj
  obtain ⟨e, he, hb, hon⟩ := hW j hjB hji o ho
  have := hall e he hb
  rcases hon with h | h
  · rw [h, hi] at this
    cases this
  · rw [hB _ h] at this
    cases this
theorem getD_ff {l : Array Bool} {k : Nat} (h : l.getD k true = false) : l.getD k false = false := by
  rcases Nat.lt_or_ge k l.size with h' | h'
  · simp [h'] at h ⊢
    exact h
  · simp [Array.getElem?_eq_none h'] at h

theorem wpAnyZ_first {i : Nat} {oi : Oper} {v : Value} {B : List Nat} (hi : ops[i]? = some oi) (hsel : ∀ (j : Nat) (o : Oper) cs b, ops[j]? = some o → o.op ≠ .select cs b)
    (hQ : ∀ c a w, Q (.panic c) (a.put oi.dst v) w → Q (.panic c) a w) (hW : Waits md ops i B) (hiB : i ∉ B) (hz : ∀ z ∈ zs, z ∈ B) :
    ∀ (fuel : Nat) (listed : Array Bool) (a : Act) (w : World),
      (∀ j oj, ops[j]? = some oj → j ≠ i → listed.getD j true = false → (∀ e ∈ oj.after, Region.binds md e = true → e.on ≠ i) → oi.apart ops oj = true) →
      (∀ k ∈ B, listed.getD k true = false) →
      i ∈ Region.ready md ops listed → YieldsIf P ops S oi v a → S w →
      wpAnyZ P md ops Q zs S fuel (listed.setIfInBounds i true) (a.put oi.dst v) w → wpAnyZ P md ops Q zs S (fuel + 1) listed a w := by
  intro fuel
  induction fuel with
  | zero =>
    intro listed a w _ _ hr hy hS H
    refine ⟨fun h => (by rw [h] at hr; cases hr), fun j hj => ?_⟩
    by_cases hji : j = i
    · subst hji; exact hy.wpOp hi hS ⟨fun _ => hS, H⟩
    · have := ready_mono hj hji
      rw [H.1] at this
      cases this
  | succ fuel ih =>
    intro listed a w hfree hBl hr hy hS H
    refine ⟨fun h => (by rw [h] at hr; cases hr), fun j hj => ?_⟩
    by_cases hji : j = i
    · subst hji; exact hy.wpOp hi hS ⟨fun _ => hS, H⟩
    · have h1 := H.2 j (ready_mono hj hji)
      obtain ⟨hjun, oj, hoj, hall⟩ := mem_ready.1 hj
      have hnot : ∀ e ∈ oj.after, Region.binds md e = true → e.on ≠ i := fun e he hb heq => by
        have h1 := hall e he hb
        have h0 := (mem_ready.1 hr).1
        rw [heq] at h1
        rcases Nat.lt_or_ge i listed.size with h' | h'
        · simp [h'] at h0 h1; rw [h0] at h1; cases h1
        · simp [Array.getElem?_eq_none h'] at h1
      have h2 := wpOp_putIf hoj (hfree j oj hoj hji hjun hnot) (fun cs b => hsel i oi cs b hi) (fun cs b => hsel j oj cs b hoj) hQ hy h1
      have hfree' : ∀ k ok, ops[k]? = some ok → k ≠ i → (listed.setIfInBounds j true).getD k true = false →
          (∀ e ∈ ok.after, Region.binds md e = true → e.on ≠ i) → oi.apart ops ok = true := fun k ok hk hki hun hno => by
        refine hfree k ok hk hki ?_ hno
        by_cases hjk : j = k
        · subst hjk; exact hjun
        · rw [getD_set_ne true hjk] at hun; exact hun
      have hjB : j ∉ B := waits_not_ready hW (getD_ff (mem_ready.1 hr).1) (fun k hk => getD_ff (hBl k hk)) hj hji
      have hBl' : ∀ k ∈ B, (listed.setIfInBounds j true).getD k true = false := fun k hk => by
        rw [getD_set_ne true (fun e => hjB (by rw [e]; exact hk))]
        exact hBl k hk
      have hov : overZ zs ((listed.setIfInBounds i true).setIfInBounds j true) = false := by
        unfold overZ
        rw [List.any_eq_false]
        intro z hzz
        have hzB := hz z hzz
        rw [getD_set_ne true (fun e => hjB (by rw [e]; exact hzB)), getD_set_ne true (fun e => hiB (by rw [e]; exact hzB)), hBl z hzB]
        simp
      refine wpOp_mono (fun a' w' h3 => ⟨fun _ => h3.2.1 hov, ih (listed.setIfInBounds j true) a' w' hfree' hBl' (ready_mono hr (Ne.symm hji)) h3.1 (h3.2.1 hov) ?_⟩) h2
      rw [Array.setIfInBounds_comm _ _ hji]
      exact h3.2.2

/-- Take number i first: B: those that wait for it, the last stores among them. -/
theorem wpAnyZ_take {i : Nat} {oi : Oper} {v : Value} {fuel : Nat} {listed : Array Bool} {a : Act} {w : World} (B : List Nat) (hi : ops[i]? = some oi)
    (hs : Region.noSelect ops = true) (hf : Region.free md ops listed i = true) (hr : (Region.ready md ops listed).contains i = true) (hB : waitsB md ops listed zs i B = true)
    (hQ : ∀ c a w, Q (.panic c) (a.put oi.dst v) w → Q (.panic c) a w) (hS : S w) (hw : Region.wanted oi (yielded ops a.tmps) = true) (hy : ∀ w, S w → (execOp a.eval oi).run P w = .ok (.value v) w)
    (h : wpAnyZ P md ops Q zs S fuel (listed.setIfInBounds i true) (a.put oi.dst v) w) : wpAnyZ P md ops Q zs S (fuel + 1) listed a w := by
  simp only [waitsB, Bool.and_eq_true, List.all_eq_true, Bool.not_eq_true', beq_eq_false_iff_ne, List.contains_iff_mem] at hB
  obtain ⟨⟨h1, h2⟩, h3⟩ := hB
  refine wpAnyZ_first hi (Region.noSelect_spec hs) hQ (B := B) (fun k hk _ o ho => ?_) (fun hiB => (h1 i hiB).1.1 rfl) h2 fuel listed a w (Region.free_spec hi hf) (fun k hk => (h1 k hk).1.2) (by simpa using hr) (.inl ⟨hw, hy⟩) hS h
  have h4 := (h1 k hk).2
  rw [ho] at h4
  simp only [Array.any_eq_true'] at h4
  obtain ⟨e, he, hb⟩ := h4
  simp only [Bool.and_eq_true, Bool.or_eq_true, beq_iff_eq, List.contains_iff_mem] at hb
  exact ⟨e, he, hb.1, hb.2⟩

def AllReadyZ (P : Program) (md : Region.Mode) (ops : Array Oper) (Q : Exit → Act → World → Prop) (zs : List Nat) (S : World → Prop) (fuel : Nat) (listed : Array Bool) (a : Act) (w : World) (rs : List Nat) : Prop :=
  ∀ i ∈ rs, wpOp P ops Q i (fun a' w' => (overZ zs (listed.setIfInBounds i true) = false → S w') ∧ wpAnyZ P md ops Q zs S fuel (listed.setIfInBounds i true) a' w') a w
theorem AllReadyZ.nil {fuel : Nat} {listed : Array Bool} {a : Act} {w : World} : AllReadyZ P md ops Q zs S fuel listed a w [] := fun _ h => by cases h
/-- An operation that is none of the last stores: S is shown anew, and handed on. -/
theorem AllReadyZ.cons {fuel : Nat} {listed : Array Bool} {a : Act} {w : World} {i : Nat} {o : Oper} {rs : List Nat} (ho : ops[i]? = some o)
    (h : ∀ K' : Act → World → Prop, Shut (∀ a w, S w → (S w → wpAnyZ P md ops Q zs S fuel (listed.setIfInBounds i true) a w) → K' a w) → if Region.wanted o (yielded ops a.tmps) = true then Oper.wp P o a w K' Q else K' (a.put o.dst undef) w)
    (hs : AllReadyZ P md ops Q zs S fuel listed a w rs) : AllReadyZ P md ops Q zs S fuel listed a w (i :: rs) := fun j hj => by
  rcases List.mem_cons.1 hj with rfl | hj
  · exact wpOp_step ho (fun K' hK => h K' (fun a w hS hW => hK a w ⟨fun _ => hS, hW hS⟩))
  · exact hs j hj
/-- One of the last stores: nothing is to be shown. -/
theorem AllReadyZ.last {fuel : Nat} {listed : Array Bool} {a : Act} {w : World} {i : Nat} {o : Oper} {rs : List Nat} (ho : ops[i]? = some o) (hz : overZ zs (listed.setIfInBounds i true) = true)
    (h : ∀ K' : Act → World → Prop, Shut (∀ a w, wpAnyZ P md ops Q zs S fuel (listed.setIfInBounds i true) a w → K' a w) → if Region.wanted o (yielded ops a.tmps) = true then Oper.wp P o a w K' Q else K' (a.put o.dst undef) w)
    (hs : AllReadyZ P md ops Q zs S fuel listed a w rs) : AllReadyZ P md ops Q zs S fuel listed a w (i :: rs) := fun j hj => by
  rcases List.mem_cons.1 hj with rfl | hj
  · exact wpOp_step ho (fun K' hK => h K' (fun a w hW => hK a w ⟨fun h0 => (by rw [hz] at h0; cases h0), hW⟩))
  · exact hs j hj
theorem wpAnyZ_ready {rs : List Nat} {fuel : Nat} {listed : Array Bool} {a : Act} {w : World} (hr : Region.ready md ops listed = rs) (hne : rs ≠ [])
    (h : AllReadyZ P md ops Q zs S fuel listed a w rs) : wpAnyZ P md ops Q zs S (fuel + 1) listed a w := ⟨fun h0 => absurd (hr ▸ h0) hne, hr ▸ h⟩
theorem wpAnyZ_done {listed : Array Bool} {a : Act} {w : World} (hr : Region.ready md ops listed = []) (h : Q .normal a w) : ∀ fuel, wpAnyZ P md ops Q zs S fuel listed a w
  | 0 => ⟨hr, h⟩
  | _ + 1 => ⟨fun _ => h, by rw [hr]; simp⟩
theorem opAt {l : List Oper} {i : Nat} {o : Oper} (h : l[i]? = some o) : l.toArray[i]? = some o := by simpa using h
/-- The beginning. -/
theorem wp_region_heldZ {id : Nat} {a : Act} {w : World} (zs : List Nat) (S : World → Prop) (hm : P.follows .mixedOrders = true) (hS : S w.drew)
    (h : S w.drew → wpAnyZ P .any ops Q zs S ops.size (Array.replicate ops.size false) a w.drew) : (Code.region id ops true).wp P Q a w :=
  wp_region_any hm (wpAny_of_heldZ _ _ _ _ (h hS))
end
end Go.Proofs.YtokcbipmocpllaaDoor

/-
  The same, with the waiting operations reckoned.
-/
namespace Go.Proofs.YtokcbipmocpllaaDoor

section
variable {P : Program} {ops : Array Oper} {Q : Exit → Act → World → Prop} {md : Region.Mode} {S : World → Prop} {zs : List Nat}
/-- Those that wait for i. -/
def blockedZ (md : Region.Mode) (ops : Array Oper) (listed : Array Bool) (i : Nat) : List Nat :=
  (List.range ops.size).foldl (fun B k => if !(k == i) && !listed.getD k true && (match ops[k]? with | some o => o.after.any fun e => Region.binds md e && (e.on == i || B.contains e.on) | none => false) then B ++ [k] else B) []
theorem wpAnyZ_takeA {i : Nat} {oi : Oper} {v : Value} {fuel : Nat} {listed : Array Bool} {a : Act} {w : World} (hi : ops[i]? = some oi)
    (hs : Region.noSelect ops = true) (hf : Region.free md ops listed i = true) (hr : (Region.ready md ops listed).contains i = true) (hB : waitsB md ops listed zs i (blockedZ md ops listed i) = true)
    (hQ : ∀ c a w, Q (.panic c) (a.put oi.dst v) w → Q (.panic c) a w) (hS : S w) (hw : Region.wanted oi (yielded ops a.tmps) = true) (hy : ∀ w, S w → (execOp a.eval oi).run P w = .ok (.value v) w)
    (h : wpAnyZ P md ops Q zs S fuel (listed.setIfInBounds i true) (a.put oi.dst v) w) : wpAnyZ P md ops Q zs S (fuel + 1) listed a w :=
  wpAnyZ_take (blockedZ md ops listed i) hi hs hf hr hB hQ hS hw hy h
/-- A guarded operation whose guard says no. -/
theorem wpAnyZ_skipA {i : Nat} {oi : Oper} {fuel : Nat} {listed : Array Bool} {a : Act} {w : World} (B : List Nat) (hB : B = blockedZ md ops listed i) (hi : ops[i]? = some oi)
    (hs : Region.noSelect ops = true) (hf : Region.free md ops listed i = true) (hr : (Region.ready md ops listed).contains i = true) (hW : waitsB md ops listed zs i B = true)
    (hQ : ∀ c a w, Q (.panic c) (a.put oi.dst undef) w → Q (.panic c) a w) (hS : S w) (hw : Region.wanted oi (yielded ops a.tmps) = false)
    (h : wpAnyZ P md ops Q zs S fuel (listed.setIfInBounds i true) (a.put oi.dst undef) w) : wpAnyZ P md ops Q zs S (fuel + 1) listed a w := by
  subst hB
  simp only [waitsB, Bool.and_eq_true, List.all_eq_true, Bool.not_eq_true', beq_eq_false_iff_ne, List.contains_iff_mem] at hW
  obtain ⟨⟨h1, h2⟩, h3⟩ := hW
  refine wpAnyZ_first hi (Region.noSelect_spec hs) hQ (B := blockedZ md ops listed i) (fun k hk _ o ho => ?_) (fun hiB => (h1 i hiB).1.1 rfl) h2 fuel listed a w (Region.free_spec hi hf) (fun k hk => (h1 k hk).1.2) (by simpa using hr) (.inr ⟨hw, rfl⟩) hS h
  have h4 := (h1 k hk).2
  rw [ho] at h4
  simp only [Array.any_eq_true'] at h4
  obtain ⟨e, he, hb⟩ := h4
  simp only [Bool.and_eq_true, Bool.or_eq_true, beq_iff_eq, List.contains_iff_mem] at hb
  exact ⟨e, he, hb.1, hb.2⟩
end
end Go.Proofs.YtokcbipmocpllaaDoor

/-
  An operation that reads no memory may be taken first, whatever is carried out ahead of it.
-/
namespace Go.Proofs.YtokcbipmocpllaaDoor

section
variable {P : Program} {ops : Array Oper} {Q : Exit → Act → World → Prop} {md : Region.Mode} {S : World → Prop} {zs : List Nat}
theorem overZ_set {l : Array Bool} {i : Nat} (hi : i ∉ zs) : overZ zs (l.setIfInBounds i true) = overZ zs l := by
  unfold overZ
  rw [Bool.eq_iff_iff, List.any_eq_true, List.any_eq_true]
  constructor
  · rintro ⟨z, hz, h⟩
    rw [getD_set_ne true (fun e => hi (by rw [e]; exact hz))] at h
    exact ⟨z, hz, h⟩
  · rintro ⟨z, hz, h⟩
    refine ⟨z, hz, ?_⟩
    rw [getD_set_ne true (fun e => hi (by rw [e]; exact hz))]
    exact h
theorem wpAnyZ_firstT {i : Nat} {oi : Oper} {v : Value} (hi : ops[i]? = some oi) (hsel : ∀ (j : Nat) (o : Oper) cs b, ops[j]? = some o → o.op ≠ .select cs b)
    (hQ : ∀ c a w, Q (.panic c) (a.put oi.dst v) w → Q (.panic c) a w) (hiz : i ∉ zs) :
    ∀ (fuel : Nat) (listed : Array Bool) (a : Act) (w : World),
      (∀ j oj, ops[j]? = some oj → j ≠ i → listed.getD j true = false → (∀ e ∈ oj.after, Region.binds md e = true → e.on ≠ i) → oi.apart ops oj = true) →
      i ∈ Region.ready md ops listed → YieldsIf P ops (fun _ => True) oi v a → (overZ zs listed = false → S w) →
      wpAnyZ P md ops Q zs S fuel (listed.setIfInBounds i true) (a.put oi.dst v) w → wpAnyZ P md ops Q zs S (fuel + 1) listed a w := by
  intro fuel
  induction fuel with
  | zero =>
    intro listed a w _ hr hy hS H
    refine ⟨fun h => (by rw [h] at hr; cases hr), fun j hj => ?_⟩
    by_cases hji : j = i
    · subst hji; exact hy.wpOp hi trivial ⟨fun h0 => hS (by rwa [overZ_set hiz] at h0), H⟩
    · have := ready_mono hj hji
      rw [H.1] at this
      cases this
  | succ fuel ih =>
    intro listed a w hfree hr hy hS H
    refine ⟨fun h => (by rw [h] at hr; cases hr), fun j hj => ?_⟩
    by_cases hji : j = i
    · subst hji; exact hy.wpOp hi trivial ⟨fun h0 => hS (by rwa [overZ_set hiz] at h0), H⟩
    · have h1 := H.2 j (ready_mono hj hji)
      obtain ⟨hjun, oj, hoj, hall⟩ := mem_ready.1 hj
      have hnot : ∀ e ∈ oj.after, Region.binds md e = true → e.on ≠ i := fun e he hb heq => by
        have h1 := hall e he hb
        have h0 := (mem_ready.1 hr).1
        rw [heq] at h1
        rcases Nat.lt_or_ge i listed.size with h' | h'
        · simp [h'] at h0 h1; rw [h0] at h1; cases h1
        · simp [Array.getElem?_eq_none h'] at h1
      have h2 := wpOp_putIf hoj (hfree j oj hoj hji hjun hnot) (fun cs b => hsel i oi cs b hi) (fun cs b => hsel j oj cs b hoj) hQ hy h1
      have hfree' : ∀ k ok, ops[k]? = some ok → k ≠ i → (listed.setIfInBounds j true).getD k true = false →
          (∀ e ∈ ok.after, Region.binds md e = true → e.on ≠ i) → oi.apart ops ok = true := fun k ok hk hki hun hno => by
        refine hfree k ok hk hki ?_ hno
        by_cases hjk : j = k
        · subst hjk; exact hjun
        · rw [getD_set_ne true hjk] at hun; exact hun
      have hov : ∀ b, overZ zs (listed.setIfInBounds j true) = b → overZ zs ((listed.setIfInBounds i true).setIfInBounds j true) = b := fun b h0 => by
        rw [Array.setIfInBounds_comm _ _ (Ne.symm hji), overZ_set hiz]
        exact h0
      refine wpOp_mono (fun a' w' h3 => ⟨fun h0 => h3.2.1 (hov _ h0), ih (listed.setIfInBounds j true) a' w' hfree' (ready_mono hr (Ne.symm hji)) h3.1 (fun h0 => h3.2.1 (hov _ h0)) ?_⟩) h2
      rw [Array.setIfInBounds_comm _ _ hji]
      exact h3.2.2
theorem wpAnyZ_takeT {i : Nat} {oi : Oper} {v : Value} {fuel : Nat} {listed : Array Bool} {a : Act} {w : World} (hi : ops[i]? = some oi)
    (hs : Region.noSelect ops = true) (hf : Region.free md ops listed i = true) (hr : (Region.ready md ops listed).contains i = true) (hz : zs.contains i = false)
    (hQ : ∀ c a w, Q (.panic c) (a.put oi.dst v) w → Q (.panic c) a w) (hS : S w) (hw : Region.wanted oi (yielded ops a.tmps) = true) (hy : ∀ w, (execOp a.eval oi).run P w = .ok (.value v) w)
    (h : wpAnyZ P md ops Q zs S fuel (listed.setIfInBounds i true) (a.put oi.dst v) w) : wpAnyZ P md ops Q zs S (fuel + 1) listed a w :=
  wpAnyZ_firstT hi (Region.noSelect_spec hs) hQ (fun h => by rw [← List.contains_iff_mem, hz] at h; cases h) fuel listed a w (Region.free_spec hi hf) (by simpa using hr) (.inl ⟨hw, fun w _ => hy w⟩) (fun _ => hS) h
end
end Go.Proofs.YtokcbipmocpllaaDoor

/-
  Package sweep's Lists: their slots.
-/
namespace Go.Proofs.YtokcbipmocpllaaDoor
open Go.RowKit

set_option maxHeartbeats 400000 in
theorem handles_own (A : Option Addr) (n c : Nat) (l : List (Int × Int)) (w : World) (hn : n ≤ 1000) (hr : Reads w w.heap.size 2 A n (rec2 l)) :
    Calls Tryd.prog 31 #[.slice A n c] w fun e w' => (∃ u, e = .returned u ∧ Own w' w.heap.size u (l.map (·.1))) ∧ Below w.heap.size w w' := by
  obtain ⟨i0, hi0, hz0, hs0, hb0⟩ := info_parts infoU64
  go_enter Tryd.func31, Tryd.ntmps31
  go_wp2_with fail
  go_loopw [3, 8] (HandIn n l w) (fun _ i _ => n - (intOf i).toNat)
  case atStart => exact ⟨0, none, 0, rfl, by omega, rfl, Below.refl _ _, World.ownsRow_nil _ _ _ _⟩
  case round =>
    obtain ⟨k, A1, c1, rfl, hk, rfl, hb, hown1⟩ := hrel
    by_cases hlt : k < n
    · obtain ⟨a, rfl, hkl, z1, z2⟩ := (hr.below hb).pair hlt
      have Htk := hide (take_snoc' l k hkl)
      generalize l[k] = x at *
      obtain ⟨h0, e0⟩ := x
      simp only at z1 z2
      have hzw := hb.size
      have ho1 := (hown1.alloc (.cells #[.int .u64 h0, .int .u64 e0] 31)).alloc (.cells #[.int .u64 h0] 29)
      have hbk := Blk.new (wr.alloc (.cells #[.int .u64 h0, .int .u64 e0] 31)) 29 #[.int .u64 h0]
      simp only [World.size_alloc] at hbk
      go_wp2_with (at_builtin; refine wpList_append_one rfl (.tmp 12) (.tmp 15) _ rfl w.heap.size 29 i0 _ 1 8 Tryd.underlying23 hi0 hz0 hs0 hb0 rfl (by omega) (by omega) (.slice A1 k c1) k _ rfl ho1 (wr.heap.size + 1) #[.int .u64 h0] rfl hbk rfl rfl (by omega) (by simp; omega) ?_; intro A3 c3 w3 hown3 hg3 hat3)
      have hb3 := below_appended ((hb.alloc (by omega) _).alloc (by simp; omega) _) ho1 hg3 (Nat.le_refl _) (by simp; omega)
      go_roundw
      case measure => simp [intOf]; omega
      case rel => exact ⟨k + 1, A3, c3, by go_num, by omega, rfl, hb3, by rw [Htk.out, List.map_append, ints_append]; exact hown3⟩
    · obtain rfl : k = n := by omega
      have e : l.take k = l := List.take_of_length_le (by have := hr.lenPair; omega)
      rw [e] at hown1
      clear e
      go_wp2_with fail
      go_ret
      exact ⟨⟨_, rfl, Own.of hown1⟩, hb⟩
theorem infoIS : (Tryd.prog.info? 3).map (fun i => (i.zero, i.size, i.bytes)) = some (some (.int .i64 0), 1, 8) := by kernel_rfl
/-- The slots that handles bear. -/
def slL (hs : List Int) : List Int := hs.map (· % 65536)
theorem slL_next (hs : List Int) (k : Nat) (h : k < hs.length) : ints .i64 (slL (hs.take (k + 1))) = ints .i64 (slL (hs.take k)) ++ [.int .i64 (hs[k] % 65536)] := by
  rw [List.take_succ_eq_append_getElem h]
  unfold slL
  rw [List.map_append, ints_append]
  rfl
def SlI19 (w : World) (hs : List Int) (o iv : Value) (wr : World) : Prop :=
  ∃ (k : Nat) (A : Option Addr) (c : Nat), iv = .int .i64 k ∧ k ≤ hs.length ∧ o = .slice A k c ∧ wr.ownsRow w.heap.size 3 1 (.slice A k c) k (ints .i64 (slL (hs.take k))) ∧ Below w.heap.size w wr
set_option maxRecDepth 100000 in
set_option maxHeartbeats 2000000 in
theorem lslots_any (A : Option Addr) (n c : Nat) (l : List (Int × Int)) (v : Value) (ks : List Int) (w : World) (hn : n ≤ 1000) (hk : ks.length ≤ 1000) (hr : Reads w w.heap.size 2 A n (rec2 l)) (hw : ∀ r ∈ l, W64 r.1) (hkw : ∀ z ∈ ks, W64 z) (hs : Sl w w.heap.size v ks) :
    Calls Tryd.prog 9 #[.agg #[.slice A n c, v]] w fun e w' => (∃ A1 m c1, e = .returned (.slice A1 m c1) ∧ m = (l.map (·.1) ++ ks).length ∧ w'.ownsRow w.heap.size 3 1 (.slice A1 m c1) m (ints .i64 (slL (l.map (·.1) ++ ks)))) ∧ Below w.heap.size w w' := by
  obtain ⟨i0, hi0, hz0, hs0, hb0⟩ := info_parts infoIS
  have hnl := hr.lenPair
  obtain ⟨A2, c2, rfl, q1, q2, q3⟩ := hs
  have HS := hide (show Sl w w.heap.size (.slice A2 ks.length c2) ks from ⟨A2, c2, rfl, q1, q2, q3⟩)
  have HH := hide (fun w2 (h : Below w.heap.size w w2) => handles_own A n c l w2 hn ((hr.below h).more h.size))
  have HL := hide (show (l.map (·.1) ++ ks).length ≤ 2000 by rw [List.length_append, List.length_map]; omega)
  have HW := hide (show ∀ z ∈ l.map (·.1) ++ ks, W64 z from by
    intro z hz
    rw [List.mem_append, List.mem_map] at hz
    rcases hz with ⟨r, hr2, rfl⟩ | hz
    · exact hw r hr2
    · exact hkw z hz)
  have CC := hide (fun (h1 : Value) (g : Nat) w2 (bl : Blk w2 g 23 #[h1, .slice A2 ks.length c2]) (s1 : Sl w2 w2.heap.size h1 (l.map (·.1))) (s2 : Sl w2 w2.heap.size (.slice A2 ks.length c2) ks) => (by
    have h9 := concat_any [(h1, l.map (·.1)), (.slice A2 ks.length c2, ks)] (some ⟨g, 0, none⟩) 2 2 w2 rfl (by omega) ((Reads.blk bl 2 1 rfl).more bl.lt) (by
      intro p hp
      simp only [List.mem_cons, List.not_mem_nil, or_false] at hp
      rcases hp with rfl | rfl
      · exact s1
      · exact s2) (by simp only [List.flatMap_cons, List.flatMap_nil, List.append_nil]; have := HL.out; omega)
    simp only [List.flatMap_cons, List.flatMap_nil, List.append_nil] at h9
    exact h9 : Calls Tryd.prog 30 #[.slice (some ⟨g, 0, none⟩) 2 2] w2 fun e w' => (∃ u, e = .returned u ∧ Own w' w2.heap.size u (l.map (·.1) ++ ks)) ∧ Below w2.heap.size w2 w'))
  have B0 := (Below.refl w.heap.size w).alloc (Nat.le_refl _) (.cells #[.slice A n c, .slice A2 ks.length c2] 25)
  have bx := Blk.new w 25 #[.slice A n c, .slice A2 ks.length c2]
  generalize l.map (·.1) = hl at *
  generalize hl ++ ks = hs at *
  clear hn hk hr hw hkw q1 q2 q3 hnl
  go_enter Tryd.func9, Tryd.ntmps9
  go_wp2_with fail
  refine wp_region_heldZ [] (fun w' => w'.cell? ⟨w.heap.size, 0, none⟩ = some (.slice A n c) ∧ w'.cell? ⟨w.heap.size, 1, none⟩ = some (.slice A2 ks.length c2)) (by kernel_rfl) (by exact ⟨bx.cell 0, bx.cell 1⟩) (fun hHeld => ?_)
  replace bx := bx.drew
  replace B0 := B0.drew
  generalize (w.alloc (.cells #[.slice A n c, .slice A2 ks.length c2] 25)).drew = w0 at *
  refine' wpAnyZ_takeA (i := 0) (v := ?_) (opAt rfl) (by kernel_rfl) (by kernel_rfl) (by kernel_rfl) (by kernel_rfl) (fun _ _ _ h => h) (by assumption) (by rfl) (fun w hSw => ?_) ?_
  rotate_left
  · (try dsimp only at hSw); go_simp; (try with_reducible rfl)
  try simp only [Act.put, List.setIfInBounds_toArray, List.set_cons_zero, List.set_cons_succ]
  refine' wpAnyZ_takeA (i := 1) (v := ?_) (opAt rfl) (by kernel_rfl) (by kernel_rfl) (by kernel_rfl) (by kernel_rfl) (fun _ _ _ h => h) (by assumption) (by rfl) (fun w hSw => ?_) ?_
  rotate_left
  · (try dsimp only at hSw); go_simp; (try with_reducible rfl)
  try simp only [Act.put, List.setIfInBounds_toArray, List.set_cons_zero, List.set_cons_succ]
  refine' wpAnyZ_takeA (i := 3) (v := ?_) (opAt rfl) (by kernel_rfl) (by kernel_rfl) (by kernel_rfl) (by kernel_rfl) (fun _ _ _ h => h) (by assumption) (by rfl) (fun w hSw => ?_) ?_
  rotate_left
  · (try dsimp only at hSw); go_simp; (try with_reducible rfl)
  try simp only [Act.put, List.setIfInBounds_toArray, List.set_cons_zero, List.set_cons_succ]
  refine' wpAnyZ_takeA (i := 4) (v := ?_) (opAt rfl) (by kernel_rfl) (by kernel_rfl) (by kernel_rfl) (by kernel_rfl) (fun _ _ _ h => h) (by assumption) (by rfl) (fun w hSw => ?_) ?_
  rotate_left
  · (try dsimp only at hSw); go_simp; (try with_reducible rfl)
  try simp only [Act.put, List.setIfInBounds_toArray, List.set_cons_zero, List.set_cons_succ]
  refine' wpAnyZ_takeA (i := 8) (v := ?_) (opAt rfl) (by kernel_rfl) (by kernel_rfl) (by kernel_rfl) (by kernel_rfl) (fun _ _ _ h => h) (by assumption) (by rfl) (fun w hSw => ?_) ?_
  rotate_left
  · (try dsimp only at hSw); go_simp; (try with_reducible rfl)
  try simp only [Act.put, List.setIfInBounds_toArray, List.set_cons_zero, List.set_cons_succ]
  refine wpAnyZ_ready (rs := [2]) (by kernel_rfl) (by simp) ?_
  refine AllReadyZ.cons (opAt rfl) (fun K hK => ?_) ?_
  · skip
    go_simp
    refine (HH.out _ B0).mono ?_
    rintro e w1 ⟨⟨u1, rfl, o1⟩, hb1⟩
    replace bx := bx.below hb1 bx.lt
    replace B0 := B0.trans (hb1.mono B0.size)
    clear hb1
    obtain ⟨U1, d1, rfl⟩ := o1.val
    try go_wp2_with fail
    refine hK.out _ _ (by exact ⟨bx.cell 0, bx.cell 1⟩) (fun hHeld => ?_)
    clear hK K
    try simp only [Act.put, List.setIfInBounds_toArray, List.set_cons_zero, List.set_cons_succ]
    refine wpAnyZ_ready (rs := [5]) (by kernel_rfl) (by simp) ?_
    refine AllReadyZ.cons (opAt rfl) (fun K hK => ?_) ?_
    · skip
      go_simp
      have bl := Blk.new w1 23 #[.slice U1 hl.length d1, .slice A2 ks.length c2]
      replace o1 := (show Own (w1.alloc (.cells #[.slice U1 hl.length d1, .slice A2 ks.length c2] 23)) _ _ _ from World.ownsRow.alloc o1 (.cells #[.slice U1 hl.length d1, .slice A2 ks.length c2] 23))
      replace bx := bx.alloc (.cells #[.slice U1 hl.length d1, .slice A2 ks.length c2] 23)
      replace B0 := B0.alloc B0.size (.cells #[.slice U1 hl.length d1, .slice A2 ks.length c2] 23)
      generalize w1.heap.size = g1 at *
      generalize w1.alloc (.cells #[.slice U1 hl.length d1, .slice A2 ks.length c2] 23) = w2 at *
      refine hK.out _ _ (by exact ⟨bx.cell 0, bx.cell 1⟩) (fun hHeld => ?_)
      clear hK K
      try simp only [Act.put, List.setIfInBounds_toArray, List.set_cons_zero, List.set_cons_succ]
      refine wpAnyZ_ready (rs := [6]) (by kernel_rfl) (by simp) ?_
      refine AllReadyZ.cons (opAt rfl) (fun K hK => ?_) ?_
      · skip
        go_simp
        refine (CC.out _ _ _ bl o1.sl ((HS.out.below B0).more B0.size)).mono ?_
        rintro e w3 ⟨⟨u3, rfl, o3⟩, hb1⟩
        replace bx := bx.below hb1 bx.lt
        replace B0 := B0.trans (hb1.mono B0.size)
        obtain ⟨A3, c3, rfl⟩ := o3.val
        clear hb1 bl o1
        try go_wp2_with fail
        refine hK.out _ _ (by exact ⟨bx.cell 0, bx.cell 1⟩) (fun hHeld => ?_)
        clear hK K
        try simp only [Act.put, List.setIfInBounds_toArray, List.set_cons_zero, List.set_cons_succ]
        refine' wpAnyZ_takeA (i := 7) (v := ?_) (opAt rfl) (by kernel_rfl) (by kernel_rfl) (by kernel_rfl) (by kernel_rfl) (fun _ _ _ h => h) (by assumption) (by rfl) (fun w hSw => ?_) ?_
        rotate_left
        · (try dsimp only at hSw); go_simp; (try with_reducible rfl)
        try simp only [Act.put, List.setIfInBounds_toArray, List.set_cons_zero, List.set_cons_succ]
        refine wpAnyZ_done (by kernel_rfl) ?_ _
        have O3 := hide o3.sl
        have HB0 := hide B0
        clear o3 bx
        go_wp2_with fail
        go_loopw [3, 14] (SlI19 w3 hs) (fun _ i _ => hs.length - (intOf i).toNat)
        case atStart => exact ⟨0, none, 0, rfl, Nat.zero_le _, rfl, by rw [List.take_zero]; exact World.ownsRow_nil _ _ _ _, Below.refl _ _⟩
        case round =>
          obtain ⟨k, A5, c5, rfl, hk, rfl, ol, hb⟩ := hrel
          by_cases hlt : k < hs.length
          · skip
            obtain ⟨A6, c6, e6, _, _, hr6⟩ := O3.out
            injection e6 with e6 e7 e8
            subst e6 e8
            clear e7
            obtain ⟨a, ea, hkl, z1⟩ := (hr6.below hb).word hlt
            subst ea
            have SN := hide (slL_next hs k hkl)
            have WX := hide (HW.out _ (List.getElem_mem hkl))
            generalize hs[k] = x at *
            have SL := hide (fun w2 => Slot_any x w2 WX.out)
            have hlt2 : (k : Int) < (hs.length : Int) := by omega
            have hk3 : (k : Int) ≤ 2000 := by have := HL.out; omega
            have HPN := hide (show k ≤ 4294967296 by have := HL.out; omega)
            clear hr6
            generalize hx : x % 65536 = y at *
            clear hx
            have hz5 := hb.size
            go_wp2_with fail
            refine (SL.out _).mono ?_
            rintro e w6 ⟨rfl, rfl⟩
            go_wp2_with (at_builtin; refine wpList_append_one rfl (.tmp 18) (.tmp 21) _ rfl w3.heap.size 3 i0 _ 1 8 Tryd.underlying27 hi0 hz0 hs0 hb0 rfl (by omega) (by omega) _ _ _ rfl (ol.alloc (.cells #[.int .i64 (y)] 3)) wr.heap.size #[.int .i64 y] rfl (Blk.new _ _ _) rfl rfl HPN.out (by rw [World.size_alloc]; omega) ?_; intro A7 c7 w7 ol7 hg7 hat7; have B7 := below_appended (hb.alloc (by omega) (.cells #[.int .i64 (y)] 3)) (ol.alloc (.cells #[.int .i64 (y)] 3)) hg7 (by omega) (by rw [World.size_alloc]; omega))
            go_roundw
            case measure => simp [intOf]; omega
            case rel => exact ⟨k + 1, A7, c7, by go_num, by omega, rfl, by rw [SN.out]; exact ol7, B7⟩
          · skip
            have hkk : k = hs.length := by omega
            subst hkk
            rw [List.take_length] at ol
            have hlt2 : ¬ (hs.length : Int) < (hs.length : Int) := by omega
            clear hlt hk
            have HB8 := hide (HB0.out.trans (hb.mono HB0.out.size))
            go_wp2_with fail
            go_ret
            exact ⟨⟨_, _, _, rfl, rfl, own_mono ol HB0.out.size⟩, HB8.out⟩
      exact AllReadyZ.nil
    exact AllReadyZ.nil
  exact AllReadyZ.nil
end Go.Proofs.YtokcbipmocpllaaDoor

/-
  A law's row whose two listed variables start as the program's text lays them follows from one fact on its Go function: wherever the table of white space stands, the call hands back true and leaves what lay below the heap's old end as it was.
-/
namespace Go.Proofs.YtokcbipmocpllaaDoor
open Go.ChangeShapes Go.WideShapes Go.ChangeAt Go.RowKit

section
variable {H : Type} {enc : TypeId × Value → H} {P : Program}

theorem trodAll_below (hl : laidOutB P = true) {W W' : World} (hb : Below W.heap.size W W') {sp : Nat → Bool} : ∀ {ts : List TypeId} {vs : List Value} {ds : List (DataW H)} {ps : List MemPlace},
    ts.all (fun t => P.readableRec t && decide (t < P.types.size)) = true → DataW.TrodAll enc P W 0 (fun _ => true) true ts vs ds ps → (∀ p ∈ ps, p.block < W.heap.size) → (∀ p ∈ ps, sp p.block = true) →
    DataW.TrodAll enc P W' 0 sp true ts vs ds ps
  | [], [], [], _, _, h, _, _ => h
  | t :: ts, v :: vs, d :: ds, ps, ht, h, hlt, hsp => by
    obtain ⟨p, q, h1, h2, rfl⟩ := h
    simp only [List.all_cons, Bool.and_eq_true, decide_eq_true_eq] at ht
    refine ⟨p, q, WideElems.Trod_stays hl ht.1.1 ht.1.2 h1 (fun x hx => hb.same (hlt x (by simp [hx]))) (fun x hx => hsp x (by simp [hx])), ?_, rfl⟩
    exact trodAll_below hl hb ht.2 h2 (fun x hx => hlt x (by simp [hx])) (fun x hx => hsp x (by simp [hx]))
  | [], _ :: _, _, _, _, h, _, _ => h.elim
  | [], [], _ :: _, _, _, h, _, _ => h.elim
  | _ :: _, [], _, _, _, h, _, _ => h.elim
  | _ :: _, _ :: _, [], _, _, h, _, _ => h.elim

theorem trodAll_length {W : World} {b : Nat} {sp : Nat → Bool} {hd : Bool} : ∀ {ts : List TypeId} {vs : List Value} {ds : List (DataW H)} {ps : List MemPlace}, DataW.TrodAll enc P W b sp hd ts vs ds ps → ds.length = ts.length
  | [], [], [], _, _ => rfl
  | _ :: _, _ :: _, _ :: _, _, h => by
    obtain ⟨_, _, _, h2, _⟩ := h
    simp [trodAll_length h2]
  | [], _ :: _, _, _, h => h.elim
  | [], [], _ :: _, _, h => h.elim
  | _ :: _, [], _, _, h => h.elim
  | _ :: _, _ :: _, [], _, h => h.elim

theorem trodAll_five {W : World} {b : Nat} {sp : Nat → Bool} {hd : Bool} {t0 t1 t2 t3 t4 : TypeId} {args : Array Value} {ds : List (DataW H)} {ps : List MemPlace} (h : DataW.TrodAll enc P W b sp hd [t0, t1, t2, t3, t4] args.toList ds ps) :
    ∃ v0 v1 v2 v3 v4 d0 d1 d2 d3 d4 p0 p1 p2 p3 p4, args = #[v0, v1, v2, v3, v4] ∧ ds = [d0, d1, d2, d3, d4] ∧ ps = p0 ++ p1 ++ p2 ++ p3 ++ p4 ∧ DataW.Trod enc P W b sp hd t0 v0 d0 p0 ∧ DataW.Trod enc P W b sp hd t1 v1 d1 p1 ∧ DataW.Trod enc P W b sp hd t2 v2 d2 p2 ∧ DataW.Trod enc P W b sp hd t3 v3 d3 p3 ∧ DataW.Trod enc P W b sp hd t4 v4 d4 p4 := by
  obtain ⟨v0, vs, d0, ds0, p0, q, hargs, rfl, rfl, h0, hr⟩ := trodAll_cons h
  obtain ⟨v1, vs1, d1, ds1, p1, q1, rfl, rfl, rfl, h1, hr⟩ := trodAll_cons hr
  obtain ⟨v2, vs2, d2, ds2, p2, q2, rfl, rfl, rfl, h2, hr⟩ := trodAll_cons hr
  obtain ⟨v3, vs3, d3, ds3, p3, q3, rfl, rfl, rfl, h3, hr⟩ := trodAll_cons hr
  obtain ⟨v4, vs4, d4, ds4, p4, q4, rfl, rfl, rfl, h4, hr⟩ := trodAll_cons hr
  obtain ⟨rfl, rfl, rfl⟩ := trodAll_nil hr
  exact ⟨v0, v1, v2, v3, v4, d0, d1, d2, d3, d4, p0, p1, p2, p3, p4, by cases args; simp_all, rfl, by simp, h0, h1, h2, h3, h4⟩
theorem trodAll_six {W : World} {b : Nat} {sp : Nat → Bool} {hd : Bool} {t0 t1 t2 t3 t4 t5 : TypeId} {args : Array Value} {ds : List (DataW H)} {ps : List MemPlace} (h : DataW.TrodAll enc P W b sp hd [t0, t1, t2, t3, t4, t5] args.toList ds ps) :
    ∃ v0 v1 v2 v3 v4 v5 d0 d1 d2 d3 d4 d5 p0 p1 p2 p3 p4 p5, args = #[v0, v1, v2, v3, v4, v5] ∧ ds = [d0, d1, d2, d3, d4, d5] ∧ ps = p0 ++ p1 ++ p2 ++ p3 ++ p4 ++ p5 ∧ DataW.Trod enc P W b sp hd t0 v0 d0 p0 ∧ DataW.Trod enc P W b sp hd t1 v1 d1 p1 ∧ DataW.Trod enc P W b sp hd t2 v2 d2 p2 ∧ DataW.Trod enc P W b sp hd t3 v3 d3 p3 ∧ DataW.Trod enc P W b sp hd t4 v4 d4 p4 ∧ DataW.Trod enc P W b sp hd t5 v5 d5 p5 := by
  obtain ⟨v0, vs, d0, ds0, p0, q, hargs, rfl, rfl, h0, hr⟩ := trodAll_cons h
  obtain ⟨v1, vs1, d1, ds1, p1, q1, rfl, rfl, rfl, h1, hr⟩ := trodAll_cons hr
  obtain ⟨v2, vs2, d2, ds2, p2, q2, rfl, rfl, rfl, h2, hr⟩ := trodAll_cons hr
  obtain ⟨v3, vs3, d3, ds3, p3, q3, rfl, rfl, rfl, h3, hr⟩ := trodAll_cons hr
  obtain ⟨v4, vs4, d4, ds4, p4, q4, rfl, rfl, rfl, h4, hr⟩ := trodAll_cons hr
  obtain ⟨v5, vs5, d5, ds5, p5, q5, rfl, rfl, rfl, h5, hr⟩ := trodAll_cons hr
  obtain ⟨rfl, rfl, rfl⟩ := trodAll_nil hr
  exact ⟨v0, v1, v2, v3, v4, v5, d0, d1, d2, d3, d4, d5, p0, p1, p2, p3, p4, p5, by cases args; simp_all, rfl, by simp, h0, h1, h2, h3, h4, h5⟩

theorem post_below {f : Func} {s : ChangeSpec} {apart fresh handsOn again : Bool} {W W' : World} {args : Array Value} {v : Value} {ds gs : List (DataW H)} {before : List MemPlace}
    (hvars : s.vars = []) (hargs : (s.fn H (ds ++ gs)).args = ds) (hgv : (s.fn H (ds ++ gs)).vars = []) (hl : laidOutB P = true) (ht : f.params.toList.all (fun t => P.readableRec t && decide (t < P.types.size)) = true)
    (hW : DataW.Whole enc P f.params.toList s.vars apart W args.toList ds gs before)
    (hres : ∀ (b : Nat) (sp : Nat → Bool) (hd : Bool), DataW.TrodAll enc P W' b sp hd f.resultTypes.toList (v.resultList f.resultTypes.size) (s.fn H (ds ++ gs)).results [])
    (hb : Below W.heap.size W W')
    (hok : ∀ (j : Nat) (t : TypeId) (r : Value), f.resultTypes[j]? = some t → (v.resultList f.resultTypes.size)[j]? = some r → Value.okWide P W' .any 0 t r) :
    s.post enc P f apart fresh handsOn again W args v W' := by
  have hlt : ∀ p ∈ before, p.block < W.heap.size := fun p hp => hW.lt p hp
  have hW0 := hW
  obtain ⟨p, q, hA, hV, hpq, hz, hn⟩ := hW0
  have hq : gs = [] ∧ q = [] := by
    rw [hvars] at hV
    cases gs with
    | nil => exact ⟨rfl, hV⟩
    | cons _ _ => exact hV.elim
  obtain ⟨rfl, rfl⟩ := hq
  simp only [List.append_nil] at hpq
  subst hpq
  have hA' : ∀ sp : Nat → Bool, (∀ x ∈ before, sp x.block = true) → DataW.TrodAll enc P W' 0 sp true f.params.toList args.toList (s.fn H (ds ++ [])).args before := fun sp hsp => by
    rw [hargs]
    exact trodAll_below hl hb ht hA hlt hsp
  have hV' : ∀ sp : Nat → Bool, DataW.TrodVars enc P W' sp s.vars (s.fn H (ds ++ [])).vars [] := fun sp => by
    rw [hgv, hvars]
    rfl
  have hold : ∀ x ∈ before, (fun b => decide (b < W.heap.size)) x.block = true := fun x hx => by simpa using hlt x hx
  refine ⟨ds, [], before, [], before, [], hW, hres _ _ _, hA' _ hold, hV' _, World.keptBut_mono (fun x hx => ⟨hx, .inr (.inl hx)⟩) (hb.frame (· ∈ before)), fun _ => ?_⟩
  refine ⟨hok, _, _, ([] ++ before) ++ [], ⟨[] ++ before, [], trodAll_append (hA' _ (fun _ _ => rfl)) (hres _ _ _), hV' _, rfl, ?_, ?_⟩, ?_⟩
  · intro b off hp
    have hin : MemPlace.cell b off ∈ before := by simpa using hp
    rw [hb.frozen (hlt _ hin)]
    exact hz b off hin
  · intro ha
    have := hn ha
    simpa using this
  · intro x hx _
    simpa using hx
end

theorem own_none : ownKnob Tryd.prog.godebug = none := by kernel_rfl
theorem laid_out : laidOutB Tryd.prog = true := by kernel_rfl

/-- The two variables that the rows list. -/
noncomputable def laid2 : List (String × DataW Unit) := [("unicode.White_Space", Rows.laid_unicode_White_Space), ("strings.asciiSpace", Rows.laid_strings_asciiSpace)]
theorem door_met (os : Os) (args : Array Value) : laidMetH Tryd.prog laid2 ((World.doorLaid Tryd.prog 400 os).forCall (fun _ _ => 0) ⟨#[], args, []⟩).memory :=
  laidMetH_of_parts3 (fuel := 8) (laidMet_of_run' 8 (by kernel_rfl) (by kernel_rfl)) (by kernel_rfl) (by kernel_rfl)

/-- The table of white space stands. -/
def Tab (W : World) : Prop := 0 < W.heap.size ∧ ∀ c : Nat, c < 256 → W.cell? ⟨0, c, none⟩ = some (.int .u8 (if Lib.isSp (UInt8.ofNat c) then 1 else 0))
theorem Tab.below {W W' : World} (h : Tab W) (hb : Below W.heap.size W W') : Tab W' :=
  ⟨Nat.lt_of_lt_of_le h.1 hb.size, fun c hc => (hb.cell (p := ⟨0, c, none⟩) h.1).trans (h.2 c hc)⟩
theorem named_space : Tryd.prog.globalNamed "strings.asciiSpace" = some 0 := by kernel_rfl
theorem type_space : (Tryd.prog.globals[0]?).map (·.type) = some 130 := by kernel_rfl

set_option maxRecDepth 100000 in
theorem tab_of_laid {W : World} (h : laidMetH Tryd.prog laid2 W) : Tab W := by
  rw [MakeChecks.laidMetH_plain _ _ _ (by kernel_rfl)] at h
  obtain ⟨ps, ⟨g0, t0, cs0, f0, p0, q0, hg0, ht0, hv0, hd0, ⟨g1, t1, cs1, f1, p1, q1, hg1, ht1, hv1, hd1, _, _⟩, _⟩, _, _⟩ := h
  obtain rfl := Option.some.inj (named_space.symm.trans hg1)
  obtain rfl := Option.some.inj (type_space.symm.trans ht1)
  have e : (Rows.laid_strings_asciiSpace : DataW Unit) = Lib.tabData .u8 Lib.asciiSpaceTab := by rfl
  rw [e] at hd1
  have hcs := Lib.cells_of_tab Tryd.underlying130 Tryd.underlying5 (by kernel_rfl) (by kernel_rfl) hd1
  have hT : Lib.TabIs Tryd.prog W "strings.asciiSpace" .u8 Lib.asciiSpaceTab := by
    unfold Lib.TabIs
    rw [hv1, ← hcs]
  have hc : ∀ c : Nat, c < 256 → W.cell? ⟨0, c, none⟩ = some (.int .u8 (if Lib.isSp (UInt8.ofNat c) then 1 else 0)) := fun c hc => by
    rw [hT.cell named_space c (by rw [Lib.asciiSpaceTab_length]; exact hc), Lib.asciiSpaceTab_at c hc]
  exact ⟨World.block_lt_of_cell? _ _ (hc 0 (by omega)), hc⟩

set_option maxRecDepth 100000 in
theorem shut_true {H : Type} {enc : TypeId × Value → H} {W' : World} {b : Nat} {sp : Nat → Bool} {hd : Bool} : DataW.TrodAll enc Tryd.prog W' b sp hd [4] [.bool true] [.lit (.bool true)] [] :=
  trodAll_mk1 (shut_bool Tryd.underlying4 true)

set_option maxRecDepth 100000 in
/-- THE LIFT: from the contract on the law's Go function to what the row's builder wants. -/
theorem lift {f : FuncId} {fn : Func} {s : ChangeSpec} {os : Os} {H : Type} {enc : TypeId × Value → H} {handsOn again : Bool} (started : os.Started) (k : Nat)
    (noInit : Tryd.checked.prog.inits.idxOf? f = none) (hfn : Tryd.prog.funcs[f]? = some fn) (hvars : s.vars = []) (hlen : fn.params.toList.length = k)
    (hspec : ∀ ds : List (DataW H), ds.length = k → s.fn H ds = { results := [.lit (.bool true)], args := ds })
    (ht : fn.params.toList.all (fun t => Tryd.prog.readableRec t && decide (t < Tryd.prog.types.size)) = true) (hr : fn.resultTypes = #[4])
    (args0 : Array Value)
    (hok : Input.okWideB Tryd.checked.prog ((World.doorLaid Tryd.prog 400 os).forCall (fun _ _ => 0) ⟨#[], args0, []⟩) f ⟨#[], args0, []⟩ = true)
    (hpre : s.preB enc Tryd.checked.prog fn [] false ((World.doorLaid Tryd.prog 400 os).forCall (fun _ _ => 0) ⟨#[], args0, []⟩).memory args0 8 = true)
    (hsz : s.sizedB enc Tryd.checked.prog fn false ((World.doorLaid Tryd.prog 400 os).forCall (fun _ _ => 0) ⟨#[], args0, []⟩).memory args0 8 = true)
    (contract : ∀ (W : World) (base : Nat) (args : Array Value) (ds : List (DataW H)) (ps : List MemPlace), Tab W →
      (∀ (j : Nat) t v, fn.params[j]? = some t → args[j]? = some v → Value.okWide Tryd.prog W .any base t v) →
      DataW.TrodAll enc Tryd.prog W 0 (fun _ => true) true fn.params.toList args.toList ds ps → (∀ p ∈ ps, p.block < W.heap.size) → 
      Calls Tryd.prog f args W fun e W' => e = .returned (.bool true) ∧ Below W.heap.size W W') :
    ReturnsInHanded {} Tryd.checked os f .any (fun w args => (s.pre enc Tryd.prog fn [] false w args ∧ laidMetH Tryd.prog laid2 w) ∧ sizedMet enc Tryd.prog fn (OpenSpec.ofChange s) false w args) (s.post enc Tryd.prog fn false true handsOn again) := by
  refine returnsInHanded_of_change_and (C := Tryd.checked) (X := fun w _ => laidMetH Tryd.prog laid2 w) (fun _ _ _ hh h => h.of_heap hh) own_none started noInit hfn
    (ChangeSpec.witness_shaped (enc := enc) (C := Tryd.checked) (os := os) (X := fun w _ => laidMetH Tryd.prog laid2 w) false (World.doorLaid Tryd.prog 400 os) args0 8 rfl (World.shaped_of_RefB (by kernel_rfl) (by kernel_rfl)) hok hpre hsz (door_met os _)) ?_
  intro W base args ds gs before hval hW hcnd _ hL _
  have hgs : gs = [] := by
    obtain ⟨p, q, _, hV, _⟩ := hW
    rw [hvars] at hV
    cases gs with
    | nil => rfl
    | cons _ _ => exact hV.elim
  subst hgs
  have hW' : DataW.Whole enc Tryd.prog fn.params.toList s.vars false W args.toList ds [] before := hW
  obtain ⟨p, q, hA, hV, hpq, hz, hn⟩ := hW'
  have hlt : ∀ x ∈ before, x.block < W.heap.size := fun x hx => hW.lt x hx
  have hspec' := hspec (ds ++ []) (by rw [List.append_nil, trodAll_length hA, hlen])
  refine (contract W base args ds p (tab_of_laid hL) hval hA (fun x hx => hlt x (by rw [hpq]; simp [hx]))).mono fun e W' ⟨he, hb⟩ => ?_
  subst he
  refine ⟨_, rfl, post_below hvars (by rw [hspec']; simp) (by rw [hspec']) laid_out ht hW (fun _ _ _ => ?_) hb (ok_one hr rfl (okWide_bool_mk Tryd.underlying4 _))⟩
  rw [hspec', hr]
  exact shut_true

/-- No type of the parameters wants a stand-in, asked of each by the kernel. -/
theorem no_stand_in {ts : List TypeId} (hall : (ts.all fun u => !Tryd.prog.wantsStandIn u) = true) (j : Nat) (t : TypeId) (ht : ts.toArray[j]? = some t) : Tryd.prog.wantsStandIn t = false := by
  have hm : t ∈ ts := by simpa using Array.mem_of_getElem? ht
  simpa using List.all_eq_true.1 hall t hm

end Go.Proofs.YtokcbipmocpllaaDoor

/-
  strings.Fields on bytes below 128: the kit's worked walk (NmFields), turned to this program's numbers.
-/
namespace Go.Proofs.YtokcbipmocpllaaDoor
open Go.RowKit

theorem infoStr : (Tryd.prog.info? 9).map (fun i => (i.zero, i.size, i.bytes)) = some (some (.string ByteArray.empty), 1, 16) := by kernel_rfl

theorem andNot00 : bits .and .i64 0 (bits .xor .i64 (-1) 0) = 0 := by decide
theorem andNot01 : bits .and .i64 0 (bits .xor .i64 (-1) 1) = 0 := by decide
theorem andNot10 : bits .and .i64 1 (bits .xor .i64 (-1) 0) = 1 := by decide
theorem andNot11 : bits .and .i64 1 (bits .xor .i64 (-1) 1) = 0 := by decide

set_option maxHeartbeats 16000000 in
set_option maxRecDepth 1000000 in
theorem fields_any (s : ByteArray) (w : World) (hs : s.size < 4294967281) (hascii : ∀ (j : Nat) b, s.data.toList[j]? = some b → b.toNat < 128)
    (hT : ∀ c : Nat, c < 256 → w.cell? ⟨0, c, none⟩ = some (.int .u8 (if Lib.isSp (UInt8.ofNat c) then 1 else 0))) :
    Calls Tryd.prog 86 #[.string s] w fun e w' =>
      e = .returned (.slice (some ⟨w.heap.size, 0, none⟩) (Lib.fields s.data.toList).length (Lib.fields s.data.toList).length) ∧ w' = w.alloc (.cells ((Lib.fields s.data.toList).map fun l => Value.string ⟨l.toArray⟩).toArray 9) := by
  have HA : Aside (∀ (j : Nat) b, s.data.toList[j]? = some b → b.toNat < 128) := hascii
  have HT : Aside (∀ c : Nat, c < 256 → w.cell? ⟨0, c, none⟩ = some (.int .u8 (if Lib.isSp (UInt8.ofNat c) then 1 else 0))) := hT
  have HT1 : Aside (∀ (o : Obj) (c : Nat), c < 256 → (w.alloc o).cell? ⟨0, c, none⟩ = some (.int .u8 (if Lib.isSp (UInt8.ofNat c) then 1 else 0))) := fun o c hc => by
    rw [World.cell?_alloc_old _ _ _ (Nat.ne_of_lt (World.block_lt_of_cell? _ _ (hT c hc)))]; exact hT c hc
  clear hascii hT
  obtain ⟨N, hN⟩ : ∃ N : Nat, (Lib.fields s.data.toList).length = N := ⟨_, rfl⟩
  rw [hN]
  have hNc : Lib.cntF true s.data.toList = N := by rw [← Lib.fields_length]; exact hN
  have hlen : s.data.toList.length = s.size := (Lib.size_eq s).symm
  go_enter Tryd.func86, Tryd.ntmps86
  go_wp2
  go_loopg [3, 4, 5, 6] s.size (fun g s3 s4 s5 s6 wx => w = wx ∧ ∃ (k nn sb : Nat) (ws : Bool), k ≤ s.size ∧ g = s.size - k ∧ s6 = .int .i64 k ∧ s3 = .int .i64 nn ∧ s4 = .int .i64 (if ws then 1 else 0) ∧ s5 = .int .u8 sb ∧ sb < 128 ∧ nn ≤ k ∧
    nn + Lib.cntF ws (s.data.toList.drop k) = N)
  case atStart => exact ⟨rfl, 0, 0, 0, true, Nat.zero_le _, rfl, rfl, rfl, rfl, rfl, by omega, Nat.le_refl _, by simpa using hNc⟩
  case round =>
    obtain ⟨rfl, k, nn, sb, ws, hk, rfl, rfl, rfl, rfl, rfl, hsb, hnk, hc⟩ := hrel
    by_cases hkn : k < s.size
    · have hkz : (k : Int) < (s.size : Int) := by omega
      obtain ⟨x, hx⟩ : ∃ x : UInt8, s[k] = x := ⟨_, rfl⟩
      have hxl : s.data.toList[k]? = some x := by rw [← hx]; exact Lib.data_getElem? s k hkn
      have hx128 : x.toNat < 128 := HA.out k x hxl
      have hxz : (x.toNat : Int) < 256 := by omega
      have hTx : w.cell? ⟨0, x.toNat, none⟩ = some (.int .u8 (if Lib.isSp x then 1 else 0)) := by have := HT.out x.toNat (by omega); simpa using this
      have hor : bits .or .u8 (sb : Int) (x.toNat : Int) = ((sb ||| x.toNat : Nat) : Int) := u8_or_nat _ _ (by omega) (by omega)
      have hor128 : sb ||| x.toNat < 128 := Nat.or_lt_two_pow (n := 7) hsb hx128
      rw [Lib.drop_at hxl, Lib.cntF_step] at hc
      have HC : Aside (nn + ((if ws && !Lib.isSp x then 1 else 0) + Lib.cntF (Lib.isSp x) (s.data.toList.drop (k + 1))) = N) := hc
      clear hc hxl
      have b00 := andNot00; have b01 := andNot01; have b10 := andNot10; have b11 := andNot11
      cases hsx : Lib.isSp x <;> cases ws <;> rw [hsx] at hTx <;> simp only [if_true, Bool.false_eq_true, if_false] at hTx ⊢ <;>
        (go_wp2
         go_roundg (s.size - (k + 1))
         case measure => omega
         case rel =>
           have hc := HC.out
           rw [hsx] at hc
           simp at hc
           first
             | exact ⟨rfl, k + 1, nn, sb ||| x.toNat, false, by omega, rfl, by first | rfl | simp, by first | rfl | (simp; unfold RowKit.wrap64; omega), rfl, by first | rfl | simp, hor128, by omega, by omega⟩
             | exact ⟨rfl, k + 1, nn + 1, sb ||| x.toNat, false, by omega, rfl, by first | rfl | simp, by first | rfl | (simp; unfold RowKit.wrap64; omega), rfl, by first | rfl | simp, hor128, by omega, by omega⟩
             | exact ⟨rfl, k + 1, nn, sb ||| x.toNat, true, by omega, rfl, by first | rfl | simp, by first | rfl | (simp; unfold RowKit.wrap64; omega), rfl, by first | rfl | simp, hor128, by omega, by omega⟩)
    · obtain rfl : k = s.size := by omega
      generalize (if ws = true then (1 : Int) else 0) = v4
      have hkz : ¬ ((s.size : Int) < (s.size : Int)) := by omega
      have hsbz : ¬ ((128 : Int) ≤ (sb : Int)) := by omega
      obtain rfl : N = nn := by rw [← hlen, List.drop_length] at hc; simpa [Lib.cntF] using hc.symm
      clear hc
      have hmk := run_make_row' (P := Tryd.prog) 111 9 (.string ByteArray.empty) 16 Tryd.underlying111 infoStr rfl .i64 .i64 N (by omega) (by omega)
      go_upto_block 2 with fail
      clear hmk
      rw [← Lib.cellsOf_nil]
      go_cut [12] from 42 to 55 (fun s12 wx => (w.alloc (.cells (Lib.cellsOf [] N) 9)) = wx ∧ ∃ i : Nat, i ≤ s.size ∧ s12 = .int .i64 i ∧ Lib.fieldsGo [] (s.data.toList.drop i) = Lib.fields s.data.toList ∧ ∀ y, s.data.toList[i]? = some y → Lib.isSp y = false)
      case first =>
        go_wp2_with fail
        go_loopg [12] s.size (fun g s12 wx => (w.alloc (.cells (Lib.cellsOf [] N) 9)) = wx ∧ ∃ i : Nat, i ≤ s.size ∧ g = s.size - i ∧ s12 = .int .i64 i ∧ Lib.fieldsGo [] (s.data.toList.drop i) = Lib.fields s.data.toList)
        case atStart => exact ⟨rfl, 0, Nat.zero_le _, rfl, rfl, rfl⟩
        case round =>
          obtain ⟨rfl, i, hi, rfl, rfl, hf⟩ := hrel
          have HF : Aside (Lib.fieldsGo [] (s.data.toList.drop i) = Lib.fields s.data.toList) := hf
          clear hf
          by_cases hin : i < s.size
          · have hiz : (i : Int) < (s.size : Int) := by omega
            obtain ⟨x, hx⟩ : ∃ x : UInt8, s[i] = x := ⟨_, rfl⟩
            have hxl : s.data.toList[i]? = some x := by rw [← hx]; exact Lib.data_getElem? s i hin
            have hx128 : x.toNat < 128 := HA.out i x hxl
            have hxz : (x.toNat : Int) < 256 := by omega
            have hTx : (w.alloc (.cells (Lib.cellsOf [] N) 9)).cell? ⟨0, x.toNat, none⟩ = some (.int .u8 (if Lib.isSp x then 1 else 0)) := by have := HT1.out (.cells (Lib.cellsOf [] N) 9) x.toNat (by omega); simpa using this
            have Hx : Aside (s.data.toList[i]? = some x) := hxl
            clear hxl
            cases hsx : Lib.isSp x <;> rw [hsx] at hTx <;> simp only [if_true, Bool.false_eq_true, if_false] at hTx
            · go_wp2
              go_meet
              exact ⟨rfl, i, hi, rfl, HF.out, fun y hy => by rw [Hx.out] at hy; cases hy; exact hsx⟩
            · go_wp2
              go_roundg (s.size - (i + 1))
              case measure => omega
              case rel => exact ⟨rfl, i + 1, by omega, rfl, by first | rfl | simp, by rw [← HF.out, Lib.drop_at Hx.out, Lib.fieldsGo_sp _ _ hsx]⟩
          · obtain rfl : i = s.size := by omega
            have hiz : ¬ ((s.size : Int) < (s.size : Int)) := by omega
            go_wp2
            go_meet
            exact ⟨rfl, s.size, Nat.le_refl _, rfl, HF.out, fun y hy => by rw [List.getElem?_eq_none (by omega)] at hy; cases hy⟩
      case rest =>
        obtain ⟨rfl, i0, hi0, rfl, hf0, hns0⟩ := hcut
        have H0 : Aside (Lib.fieldsGo [] (s.data.toList.drop i0) = Lib.fields s.data.toList ∧ ∀ y, s.data.toList[i0]? = some y → Lib.isSp y = false) := ⟨hf0, hns0⟩
        clear hf0 hns0
        go_wp2
        go_loopg [10, 11, 12] (s.size - i0) (fun g s10 s11 s12 wx => ∃ (done : List ByteArray) (fs i : Nat), s10 = .int .i64 done.length ∧ s11 = .int .i64 fs ∧ s12 = .int .i64 i ∧ fs ≤ i ∧ i ≤ s.size ∧ g = s.size - i ∧ wx = (w.alloc (.cells (Lib.cellsOf done N) 9)) ∧
          done.map (·.data.toList) ++ Lib.fieldsGo ((s.data.toList.drop fs).take (i - fs)) (s.data.toList.drop i) = Lib.fields s.data.toList ∧ (fs = i → ∀ y, s.data.toList[i]? = some y → Lib.isSp y = false))
        case atStart => exact ⟨[], i0, i0, rfl, rfl, rfl, Nat.le_refl _, hi0, rfl, rfl, by rw [Lib.piece_nil]; exact H0.out.1, fun _ => H0.out.2⟩
        case round =>
          obtain ⟨done, fs, i, rfl, rfl, rfl, hfi, hi, rfl, rfl, hinv, hside⟩ := hrel
          clear H0
          by_cases hin : i < s.size
          · have hiz : (i : Int) < (s.size : Int) := by omega
            obtain ⟨x, hx⟩ : ∃ x : UInt8, s[i] = x := ⟨_, rfl⟩
            have hxl : s.data.toList[i]? = some x := by rw [← hx]; exact Lib.data_getElem? s i hin
            have hx128 : x.toNat < 128 := HA.out i x hxl
            have hxz : (x.toNat : Int) < 256 := by omega
            have hTx : (w.alloc (.cells (Lib.cellsOf done N) 9)).cell? ⟨0, x.toNat, none⟩ = some (.int .u8 (if Lib.isSp x then 1 else 0)) := by have := HT1.out (.cells (Lib.cellsOf done N) 9) x.toNat (by omega); simpa using this
            have Hx : Aside (s.data.toList[i]? = some x) := hxl
            clear hxl
            cases hsx : Lib.isSp x <;> rw [hsx] at hTx <;> simp only [if_true, Bool.false_eq_true, if_false] at hTx
            · -- a byte of a field: 'i++; continue'
              have HI : Aside (done.map (·.data.toList) ++ Lib.fieldsGo ((s.data.toList.drop fs).take (i - fs)) (s.data.toList.drop i) = Lib.fields s.data.toList) := hinv
              clear hinv hside
              go_wp2
              go_roundg (s.size - (i + 1))
              case measure => omega
              case rel => exact ⟨done, fs, i + 1, rfl, rfl, by first | rfl | simp, by omega, by omega, rfl, rfl, by rw [Lib.piece_more hfi Hx.out, ← Lib.fieldsGo_more _ _ _ hsx, ← Lib.drop_at Hx.out]; exact HI.out, fun h => by omega⟩
            · -- white space: the field ends here: 'a[na] = s[fieldStart:i]; na++; i++'
              have hlt : fs < i := by
                refine Nat.lt_of_le_of_ne hfi fun h => ?_
                have := hside h x Hx.out
                rw [hsx] at this
                cases this
              rw [Lib.drop_at Hx.out, Lib.fieldsGo_end _ _ _ hsx (Lib.piece_ne hlt (by omega))] at hinv
              have hdN : done.length < N := by
                have := congrArg List.length hinv
                rw [hN] at this
                simp at this
                omega
              have hnext : (Lib.cellsOf done N)[done.length]? = some (.string ByteArray.empty) := Lib.cellsOf_next hdN
              have hdz : ((done.length : Nat) : Int) < (N : Int) := by omega
              have c1 : (fs : Int) ≤ (i : Int) := by omega
              have c2 : (i : Int) ≤ (s.size : Int) := by omega
              have HI : Aside ((done ++ [s.extract fs i]).map (·.data.toList) ++ Lib.fieldsGo [] (s.data.toList.drop (i + 1)) = Lib.fields s.data.toList) := by
                show _ = _
                rw [← hinv, List.map_append, List.map_cons, List.map_nil, Lib.extract_data]
                simp
              clear hinv hside
              go_wp2
              rw [Lib.cellsOf_set hdN]
              clear hnext hTx
              go_loopg [12] (s.size - (i + 1)) (fun g s12 wx => (w.alloc (.cells (Lib.cellsOf (done ++ [s.extract fs i]) N) 9)) = wx ∧ ∃ j : Nat, i + 1 ≤ j ∧ j ≤ s.size ∧ g = s.size - j ∧ s12 = .int .i64 j ∧ Lib.fieldsGo [] (s.data.toList.drop j) = Lib.fieldsGo [] (s.data.toList.drop (i + 1)))
              case atStart => exact ⟨rfl, i + 1, Nat.le_refl _, by omega, rfl, by first | rfl | simp, rfl⟩
              case round =>
                obtain ⟨rfl, j, hij, hj, rfl, rfl, hfj⟩ := hrel
                have HJ : Aside (Lib.fieldsGo [] (s.data.toList.drop j) = Lib.fieldsGo [] (s.data.toList.drop (i + 1))) := hfj
                clear hfj hx Hx hx128 hxz hsx
                by_cases hjn : j < s.size
                · have hjz : (j : Int) < (s.size : Int) := by omega
                  obtain ⟨x, hx⟩ : ∃ x : UInt8, s[j] = x := ⟨_, rfl⟩
                  have hxl : s.data.toList[j]? = some x := by rw [← hx]; exact Lib.data_getElem? s j hjn
                  have hx128 : x.toNat < 128 := HA.out j x hxl
                  have hxz : (x.toNat : Int) < 256 := by omega
                  have hTx : (w.alloc (.cells (Lib.cellsOf (done ++ [s.extract fs i]) N) 9)).cell? ⟨0, x.toNat, none⟩ = some (.int .u8 (if Lib.isSp x then 1 else 0)) := by have := HT1.out (.cells (Lib.cellsOf (done ++ [s.extract fs i]) N) 9) x.toNat (by omega); simpa using this
                  have Hx : Aside (s.data.toList[j]? = some x) := hxl
                  clear hxl
                  cases hsx : Lib.isSp x <;> rw [hsx] at hTx <;> simp only [if_true, Bool.false_eq_true, if_false] at hTx
                  · go_wp2
                    go_roundg (s.size - j)
                    case measure => omega
                    case rel => exact ⟨done ++ [s.extract fs i], j, j, by simp, rfl, rfl, Nat.le_refl _, hj, rfl, rfl, by rw [Lib.piece_nil, HJ.out]; exact HI.out, fun _ y hy => by rw [Hx.out] at hy; cases hy; exact hsx⟩
                  · go_wp2
                    go_roundg (s.size - (j + 1))
                    case measure => omega
                    case rel => exact ⟨rfl, j + 1, by omega, by omega, rfl, by first | rfl | simp, by rw [← HJ.out, Lib.drop_at Hx.out, Lib.fieldsGo_sp _ _ hsx]⟩
                · obtain rfl : j = s.size := by omega
                  have hjz : ¬ ((s.size : Int) < (s.size : Int)) := by omega
                  go_wp2
                  go_roundg (s.size - s.size)
                  case measure => omega
                  case rel => exact ⟨done ++ [s.extract fs i], s.size, s.size, by simp, rfl, rfl, Nat.le_refl _, Nat.le_refl _, rfl, rfl, by rw [Lib.piece_nil, HJ.out]; exact HI.out, fun _ y hy => by rw [List.getElem?_eq_none (by omega)] at hy; cases hy⟩
          · -- the string's end: 'if fieldStart < len(s) { a[na] = s[fieldStart:] }; return a'
            obtain rfl : i = s.size := by omega
            have hiz : ¬ ((s.size : Int) < (s.size : Int)) := by omega
            rw [← hlen, List.drop_length, hlen] at hinv
            clear hside
            by_cases hfl : fs < s.size
            · have hflz : (fs : Int) < (s.size : Int) := by omega
              have hne := Lib.piece_ne (l := s.data.toList) hfl (by omega)
              have e1 : Lib.fieldsGo ((s.data.toList.drop fs).take (s.size - fs)) [] = [(s.data.toList.drop fs).take (s.size - fs)] := by
                cases hc : (s.data.toList.drop fs).take (s.size - fs) with
                | nil => exact absurd hc hne
                | cons _ _ => rfl
              rw [e1] at hinv
              have hfin : (done ++ [s.extract fs s.size]).map (·.data.toList) = Lib.fields s.data.toList := by rw [← hinv, List.map_append, List.map_cons, List.map_nil, Lib.extract_data]
              have hdN : done.length + 1 = N := by
                have := congrArg List.length hfin
                rw [hN] at this
                simpa using this
              have hnext : (Lib.cellsOf done N)[done.length]? = some (.string ByteArray.empty) := Lib.cellsOf_next (by omega)
              have hdz : ((done.length : Nat) : Int) < (N : Int) := by omega
              have HFin : Aside ((done ++ [s.extract fs s.size]).map (·.data.toList) = Lib.fields s.data.toList) := hfin
              clear hinv hfin e1 hne
              go_wp2
              go_ret
              refine ⟨rfl, ?_⟩
              rw [Lib.cellsOf_set (by omega), ← Lib.pieces_eq HFin.out, ← Lib.cellsOf_full]
              congr 3
              simp; omega
            · obtain rfl : fs = s.size := by omega
              have hflz : ¬ ((s.size : Int) < (s.size : Int)) := by omega
              rw [Lib.piece_nil] at hinv
              have hfin : done.map (·.data.toList) = Lib.fields s.data.toList := by simpa [Lib.fieldsGo] using hinv
              have hdN : done.length = N := by
                have := congrArg List.length hfin
                rw [hN] at this
                simpa using this
              have HFin : Aside (done.map (·.data.toList) = Lib.fields s.data.toList) := hfin
              clear hinv hfin
              go_wp2
              go_ret
              refine ⟨rfl, ?_⟩
              rw [← Lib.pieces_eq HFin.out, ← Lib.cellsOf_full, hdN]

end Go.Proofs.YtokcbipmocpllaaDoor

/-
  Layout, in plain numbers: which word stands where.
-/
namespace Go.Proofs.YtokcbipmocpllaaDoor

/-- A configuration that may be. -/
def cfgOk (s t f l p : Int) : Bool := decide (1 ≤ s ∧ s ≤ 1000 ∧ 1 ≤ t ∧ t ≤ 64 ∧ 4 ≤ f ∧ f ≤ 64 ∧ 1 ≤ l ∧ l ≤ 64 ∧ 1 ≤ p ∧ p ≤ 1048576)
theorem cfgOk_iff {s t f l p : Int} : cfgOk s t f l p = true ↔ (1 ≤ s ∧ s ≤ 1000 ∧ 1 ≤ t ∧ t ≤ 64 ∧ 4 ≤ f ∧ f ≤ 64 ∧ 1 ≤ l ∧ l ≤ 64 ∧ 1 ≤ p ∧ p ≤ 1048576) := by unfold cfgOk; simp

/-- How many words there are. -/
def laySize (s t f : Int) : Int := 3 + 3 * t + (s + 1) * (3 + 2 * f)
/-- A word's place. -/
def plc (s t f a : Int) : Int × Int × Int :=
  if a < 0 ∨ laySize s t f ≤ a then (0, 0, 0)
  else if a < 3 then (a + 1, 0, 0)
  else if a < 3 + t then (4, a - 3, 0)
  else if a < 3 + 3 * t then (5, (a - 3 - t) / 2, (a - 3 - t) % 2)
  else if (a - (3 + 3 * t)) % (3 + 2 * f) < 3 then (6 + (a - (3 + 3 * t)) % (3 + 2 * f), (a - (3 + 3 * t)) / (3 + 2 * f), 0)
  else if (a - (3 + 3 * t)) % (3 + 2 * f) < 3 + f then (9, (a - (3 + 3 * t)) / (3 + 2 * f), (a - (3 + 3 * t)) % (3 + 2 * f) - 3)
  else (10, (a - (3 + 3 * t)) / (3 + 2 * f), (a - (3 + 3 * t)) % (3 + 2 * f) - 3 - f)

/-- A node's word: its number within the node, and how many such there are; the number of a place's word. -/
def nodAt (f k : Int) : Int := if k = 6 then 0 else if k = 7 then 1 else if k = 8 then 2 else if k = 9 then 3 else 3 + f
def nodMany (f k : Int) : Int := if k = 9 ∨ k = 10 then f else 1
def nod (s t f k o i : Int) : Int :=
  if k < 6 ∨ 10 < k ∨ o < 0 ∨ s + 1 ≤ o ∨ i < 0 ∨ nodMany f k ≤ i then -1 else 3 + 3 * t + o * (3 + 2 * f) + nodAt f k + i
def atp (s t f k o i : Int) : Int :=
  if 1 ≤ k ∧ k ≤ 3 ∧ o = 0 ∧ i = 0 then k - 1
  else if k = 4 ∧ i = 0 ∧ 0 ≤ o ∧ o < t then 3 + o
  else if k = 5 ∧ 0 ≤ i ∧ i < 2 ∧ 0 ≤ o ∧ o < t then 3 + t + 2 * o + i
  else nod s t f k o i

theorem size_pos {s t f : Int} (hs : 1 ≤ s ∧ s ≤ 1000) (ht : 1 ≤ t ∧ t ≤ 64) (hf : 4 ≤ f ∧ f ≤ 64) : 3 + 3 * t < laySize s t f ∧ laySize s t f ≤ 131326 := by
  unfold laySize
  have h1 : 0 < (s + 1) * (3 + 2 * f) := Int.mul_pos (by omega) (by omega)
  have h2 : (s + 1) * (3 + 2 * f) ≤ 1001 * 131 := Int.mul_le_mul (by omega) (by omega) (by omega) (by omega)
  omega

/-- The parts of a number below a product. -/
theorem div_parts {d W n : Int} (hW : 0 < W) (h0 : 0 ≤ d) (h1 : d < n * W) : 0 ≤ d / W ∧ d / W < n ∧ 0 ≤ d % W ∧ d % W < W ∧ d = d / W * W + d % W := by
  have e := Int.mul_ediv_add_emod d W
  exact ⟨Int.ediv_nonneg h0 (by omega), Int.ediv_lt_of_lt_mul hW h1, Int.emod_nonneg _ (by omega), Int.emod_lt_of_pos _ hW, by rw [Int.mul_comm]; exact e.symm⟩
theorem div_back {o W j : Int} (h0 : 0 ≤ j) (h1 : j < W) : (o * W + j) / W = o ∧ (o * W + j) % W = j := by
  rw [Int.add_comm, Int.add_mul_ediv_right _ _ (by omega), Int.add_mul_emod_self_right]
  rw [Int.ediv_eq_zero_of_lt h0 h1, Int.emod_eq_of_lt h0 h1]
  exact ⟨by omega, rfl⟩

/-- Each word's place leads back to it. -/
theorem atp_plc {s t f a : Int} (hs : 1 ≤ s ∧ s ≤ 1000) (ht : 1 ≤ t ∧ t ≤ 64) (hf : 4 ≤ f ∧ f ≤ 64) :
    atp s t f (plc s t f a).1 (plc s t f a).2.1 (plc s t f a).2.2 = if a < 0 ∨ laySize s t f ≤ a then -1 else a := by
  have hz := size_pos hs ht hf
  unfold plc
  by_cases c0 : a < 0 ∨ laySize s t f ≤ a
  · rw [if_pos c0, if_pos c0]
    simp [atp, nod]
  rw [if_neg c0, if_neg c0]
  by_cases c1 : a < 3
  · rw [if_pos c1]
    unfold atp
    rw [if_pos (by simp; omega)]
    simp
  rw [if_neg c1]
  by_cases c2 : a < 3 + t
  · rw [if_pos c2]
    unfold atp
    rw [if_neg (by simp), if_pos (by simp; omega)]
    simp
    omega
  rw [if_neg c2]
  by_cases c3 : a < 3 + 3 * t
  · rw [if_pos c3]
    unfold atp
    rw [if_neg (by simp), if_neg (by simp), if_pos (by simp; omega)]
    simp
    omega
  rw [if_neg c3]
  have hd := div_parts (d := a - (3 + 3 * t)) (W := 3 + 2 * f) (n := s + 1) (by omega) (by omega) (by unfold laySize at c0; omega)
  generalize (a - (3 + 3 * t)) / (3 + 2 * f) = o at *
  generalize (a - (3 + 3 * t)) % (3 + 2 * f) = j at *
  obtain ⟨d1, d2, d3, d4, d5⟩ := hd
  by_cases c4 : j < 3
  · rw [if_pos c4]
    have hj : j = 0 ∨ j = 1 ∨ j = 2 := by omega
    unfold atp nod nodMany nodAt
    rw [if_neg (by simp; omega), if_neg (by simp; omega), if_neg (by simp; omega)]
    rcases hj with rfl | rfl | rfl
    all_goals
      simp
      rw [if_neg (by omega)]
      omega
  rw [if_neg c4]
  by_cases c5 : j < 3 + f
  · rw [if_pos c5]
    unfold atp nod nodMany nodAt
    simp
    rw [if_neg (by omega)]
    omega
  · rw [if_neg c5]
    unfold atp nod nodMany nodAt
    simp
    rw [if_neg (by omega)]
    omega
end Go.Proofs.YtokcbipmocpllaaDoor

/-
  Package config: all, check, Right; gleaningref07: Numbers, Wrong.
-/
namespace Go.Proofs.YtokcbipmocpllaaDoor
open Go.RowKit

/-- The numbers of a configuration, and their bounds. -/
def cN (s t f l p : Int) (k : Nat) : Int := [s, t, f, l, p].getD k 0
def cLo (k : Nat) : Int := [(1 : Int), 1, 4, 1, 1].getD k 0
def cHi (k : Nat) : Int := [(1000 : Int), 64, 64, 64, 1048576].getD k 0
def cIn (s t f l p : Int) (k : Nat) : Prop := cLo k ≤ cN s t f l p k ∧ cN s t f l p k ≤ cHi k
theorem five {k : Nat} (h : k < 5) : k = 0 ∨ k = 1 ∨ k = 2 ∨ k = 3 ∨ k = 4 := by omega
theorem cfg_all {s t f l p : Int} (h : ∀ k, k < 5 → cIn s t f l p k) : cfgOk s t f l p = true := by
  have h0 : 1 ≤ s ∧ s ≤ 1000 := h 0 (by omega)
  have h1 : 1 ≤ t ∧ t ≤ 64 := h 1 (by omega)
  have h2 : 4 ≤ f ∧ f ≤ 64 := h 2 (by omega)
  have h3 : 1 ≤ l ∧ l ≤ 64 := h 3 (by omega)
  have h4 : 1 ≤ p ∧ p ≤ 1048576 := h 4 (by omega)
  rw [cfgOk_iff]
  omega
theorem cfg_no {s t f l p : Int} {k : Nat} (hk : k < 5) (h : ¬ cIn s t f l p k) : cfgOk s t f l p = false := by
  rw [Bool.eq_false_iff]
  intro e
  rw [cfgOk_iff] at e
  apply h
  unfold cIn
  rcases five hk with rfl | rfl | rfl | rfl | rfl
  · show 1 ≤ s ∧ s ≤ 1000; omega
  · show 1 ≤ t ∧ t ≤ 64; omega
  · show 4 ≤ f ∧ f ≤ 64; omega
  · show 1 ≤ l ∧ l ≤ 64; omega
  · show 1 ≤ p ∧ p ≤ 1048576; omega

def I64s (s t f l p : Int) : Prop := I64 s ∧ I64 t ∧ I64 f ∧ I64 l ∧ I64 p
theorem cN_I64 {s t f l p : Int} (h : I64s s t f l p) {k : Nat} (hk : k < 5) : I64 (cN s t f l p k) := by
  obtain ⟨h0, h1, h2, h3, h4⟩ := h
  rcases five hk with rfl | rfl | rfl | rfl | rfl
  · exact h0
  · exact h1
  · exact h2
  · exact h3
  · exact h4
def bndA (s t f l p : Int) : Array Value := #[.int .i64 s, .int .i64 1, .int .i64 1000, .int .i64 t, .int .i64 1, .int .i64 64, .int .i64 f, .int .i64 4, .int .i64 64, .int .i64 l, .int .i64 1, .int .i64 64, .int .i64 p, .int .i64 1, .int .i64 1048576]
theorem bndA_at (s t f l p : Int) {k : Nat} (hk : k < 5) : (bndA s t f l p)[k * 3]? = some (.int .i64 (cN s t f l p k)) ∧ (bndA s t f l p)[k * 3 + 1]? = some (.int .i64 (cLo k)) ∧ (bndA s t f l p)[k * 3 + 2]? = some (.int .i64 (cHi k)) := by
  rcases five hk with rfl | rfl | rfl | rfl | rfl
  all_goals exact ⟨rfl, rfl, rfl⟩
def numA (s t f l p : Int) : Array Value := #[.int .i64 s, .int .i64 t, .int .i64 f, .int .i64 l, .int .i64 p]
theorem numA_at (s t f l p : Int) {k : Nat} (hk : k < 5) : (numA s t f l p)[k]? = some (.int .i64 (cN s t f l p k)) := by
  rcases five hk with rfl | rfl | rfl | rfl | rfl
  all_goals rfl
theorem lo_at {k : Nat} (hk : k < 5) : (numA 1 1 4 1 1)[k]? = some (.int .i64 (cLo k)) := by
  rcases five hk with rfl | rfl | rfl | rfl | rfl
  all_goals rfl
theorem hi_at {k : Nat} (hk : k < 5) : (numA 1000 64 64 64 1048576)[k]? = some (.int .i64 (cHi k)) := by
  rcases five hk with rfl | rfl | rfl | rfl | rfl
  all_goals rfl

set_option maxHeartbeats 400000 in
theorem call_any (s t f l p : Int) (w : World) :
    Calls Tryd.prog 87 #[.agg #[.int .i64 s, .int .i64 t, .int .i64 f, .int .i64 l, .int .i64 p]] w fun e w' => (∃ g, e = .returned (.slice (some ⟨g, 0, none⟩) 5 5) ∧ Blk w' g 116 (bndA s t f l p)) ∧ Below w.heap.size w w' := by
  go_enter Tryd.func87, Tryd.ntmps87
  go_wp2_with fail
  go_ret
  have h := fun o => Blk.new (w.alloc o) 116 (bndA s t f l p)
  simp only [World.size_alloc] at h
  exact ⟨⟨_, rfl, h _⟩, ((Below.refl _ _).alloc (Nat.le_refl _) _).alloc (by simp only [World.size_alloc]; omega) _⟩

def wordsB : ByteArray := ⟨#[115, 108, 111, 116, 115, 32, 116, 104, 114, 101, 97, 100, 115, 32, 102, 97, 110, 32, 108, 105, 109, 98, 111, 32, 112, 97, 116, 105, 101, 110, 99, 101]⟩
theorem fieldsW (w : World) (hT : Tab w) :
    Calls Tryd.prog 86 #[.string wordsB] w fun e w' => (∃ g cs, e = .returned (.slice (some ⟨g, 0, none⟩) 5 5) ∧ Blk w' g 9 cs ∧ ∀ k, k < 5 → ∃ x, cs[k]? = some (.string x)) ∧ Below w.heap.size w w' := by
  have hasc : ∀ (j : Nat) b, wordsB.data.toList[j]? = some b → b.toNat < 128 := by
    intro j b hb
    have hm := List.mem_of_getElem? hb
    have hall : (wordsB.data.toList.all fun b => decide (b.toNat < 128)) = true := by decide
    simpa using List.all_eq_true.1 hall b hm
  refine (fields_any wordsB w (by decide) hasc (fun c hc => hT.2 c hc)).mono ?_
  rintro e w' ⟨rfl, rfl⟩
  have hl : (Lib.fields wordsB.data.toList).length = 5 := by decide
  rw [hl]
  refine ⟨⟨_, _, rfl, Blk.new _ _ _, fun k hk => ?_⟩, (Below.refl _ _).alloc (Nat.le_refl _) _⟩
  have hk2 : k < (Lib.fields wordsB.data.toList).length := by omega
  exact ⟨_, by rw [List.getElem?_toArray, List.getElem?_map, List.getElem?_eq_getElem hk2]; rfl⟩

def ChkIn (w : World) (P : Nat → Prop) (i : Value) (wr : World) : Prop := ∃ k : Nat, i = .int .i64 k ∧ k ≤ 5 ∧ (∀ j, j < k → P j) ∧ Below w.heap.size w wr
/-- An error, or none. -/
def ErrIs (ok : Bool) (v : Value) : Prop := if ok = true then v = .nilIface else ∃ a, v = .iface 117 (.pointer (some a))

set_option maxHeartbeats 1000000 in
theorem check_any (s t f l p : Int) (w : World) (hT : Tab w) :
    Calls Tryd.prog 62 #[.agg #[.int .i64 s, .int .i64 t, .int .i64 f, .int .i64 l, .int .i64 p]] w fun e w' => (∃ v, e = .returned v ∧ ErrIs (cfgOk s t f l p) v) ∧ Below w.heap.size w w' := by
  have F := hide (fun w2 (hb : Below w.heap.size w w2) => fieldsW w2 (hT.below hb))
  have C := hide (fun w2 => call_any s t f l p w2)
  have bx := Blk.new w 36 #[.int .i64 s, .int .i64 t, .int .i64 f, .int .i64 l, .int .i64 p]
  go_enter Tryd.func62, Tryd.ntmps62
  go_wp2_with fail
  have B0 := (Below.refl w.heap.size w).alloc (Nat.le_refl _) (.cells #[.int .i64 s, .int .i64 t, .int .i64 f, .int .i64 l, .int .i64 p] 36)
  refine (F.out _ B0).mono ?_
  rintro e w1 ⟨⟨g1, cs, rfl, b1, hcs⟩, hb1⟩
  have B1 := B0.trans (hb1.mono B0.size)
  have bx1 := bx.below hb1 bx.lt
  have m1 := fun i => bx1.cell i
  have HCS := hide hcs
  have HB1 := hide b1
  clear hcs b1 hb1
  go_wp2_with fail
  refine (C.out _).mono ?_
  rintro e w2 ⟨⟨g2, rfl, b2⟩, hb2⟩
  have B2 := B1.trans (hb2.mono B1.size)
  have b1 := HB1.out.below hb2 HB1.out.lt
  have H1 := hide b1
  have H2 := hide b2
  have HB2 := hide B2
  clear b1 b2 hb2 m1 bx1 HB1 B1 B2
  go_wp2_with fail
  go_loopw [10] (ChkIn w2 (cIn s t f l p)) (fun i _ => 5 - (intOf i).toNat)
  case atStart => exact ⟨0, rfl, by omega, fun j h => absurd h (by omega), Below.refl _ _⟩
  case round =>
    obtain ⟨k, rfl, hk, hok, hb⟩ := hrel
    have HOK := hide hok
    clear hok
    by_cases hlt : k < 5
    · obtain ⟨x, hx⟩ := HCS.out k hlt
      obtain ⟨e0, e1, e2⟩ := bndA_at s t f l p hlt
      have b2 := H2.out.below hb H2.out.lt
      have b1 := H1.out.below hb H1.out.lt
      have z0 := (b2.cell (k * 3)).trans e0
      have z1 := (b2.cell (k * 3 + 1)).trans e1
      have z2 := (b2.cell (k * 3 + 2)).trans e2
      have z3 := (b1.cell k).trans hx
      have HI := hide (show cIn s t f l p k ↔ (cLo k ≤ cN s t f l p k ∧ cN s t f l p k ≤ cHi k) from Iff.rfl)
      have HN := hide (fun h => cfg_no (s := s) (t := t) (f := f) (l := l) (p := p) hlt h)
      have y1 := b1.lt
      clear e0 e1 e2 hx b1 b2
      generalize cN s t f l p k = n at *
      generalize cLo k = lo at *
      generalize cHi k = hi at *
      have hz := hb.size
      by_cases c1 : n < lo
      · have E := hide (HN.out (fun h => by have := HI.out.1 h; omega))
        go_wp2_with fail
        go_ret
        refine ⟨⟨_, rfl, ?_⟩, ?_⟩
        · rw [E.out]
          exact ⟨_, rfl⟩
        · have B9 := HB2.out.trans (hb.mono HB2.out.size)
          exact (B9.alloc B9.size _).alloc (by have := B9.size; simp only [World.size_alloc]; omega) _
      by_cases c2 : hi < n
      · have E := hide (HN.out (fun h => by have := HI.out.1 h; omega))
        go_wp2_with fail
        go_ret
        refine ⟨⟨_, rfl, ?_⟩, ?_⟩
        · rw [E.out]
          exact ⟨_, rfl⟩
        · have B9 := HB2.out.trans (hb.mono HB2.out.size)
          exact (B9.alloc B9.size _).alloc (by have := B9.size; simp only [World.size_alloc]; omega) _
      · have E := hide (HI.out.2 ⟨by omega, by omega⟩)
        go_wp2_with fail
        go_roundw
        case rel => exact ⟨k + 1, by go_num, by omega, fun j hj => by
          by_cases e : j = k
          · subst e
            exact E.out
          · exact HOK.out j (by omega), hb.alloc hz _⟩
        case measure => simp [intOf]; omega
    · obtain rfl : k = 5 := by omega
      have E := hide (cfg_all HOK.out)
      go_wp2_with fail
      go_ret
      exact ⟨⟨_, rfl, by rw [E.out]; rfl⟩, HB2.out.trans (hb.mono HB2.out.size)⟩

set_option maxHeartbeats 400000 in
theorem cright_any (s t f l p : Int) (w : World) (hT : Tab w) :
    Calls Tryd.prog 42 #[.agg #[.int .i64 s, .int .i64 t, .int .i64 f, .int .i64 l, .int .i64 p]] w fun e w' => e = .returned (.bool (cfgOk s t f l p)) ∧ Below w.heap.size w w' := by
  have C := hide (fun w2 (hb : Below w.heap.size w w2) => check_any s t f l p w2 (hT.below hb))
  generalize cfgOk s t f l p = ok at *
  cases ok
  · go_enter Tryd.func42, Tryd.ntmps42
    go_wp2_with fail
    have B0 := (Below.refl w.heap.size w).alloc (Nat.le_refl _) (.cells #[.int .i64 s, .int .i64 t, .int .i64 f, .int .i64 l, .int .i64 p] 36)
    refine (C.out _ B0).mono ?_
    rintro e w1 ⟨⟨v, rfl, a, rfl⟩, hb1⟩
    have B1 := B0.trans (hb1.mono B0.size)
    go_wp2_with fail
    go_ret
    exact ⟨rfl, B1⟩
  · go_enter Tryd.func42, Tryd.ntmps42
    go_wp2_with fail
    have B0 := (Below.refl w.heap.size w).alloc (Nat.le_refl _) (.cells #[.int .i64 s, .int .i64 t, .int .i64 f, .int .i64 l, .int .i64 p] 36)
    refine (C.out _ B0).mono ?_
    rintro e w1 ⟨⟨v, rfl, hv⟩, hb1⟩
    obtain rfl : v = .nilIface := hv
    have B1 := B0.trans (hb1.mono B0.size)
    go_wp2_with fail
    go_ret
    exact ⟨rfl, B1⟩
end Go.Proofs.YtokcbipmocpllaaDoor

