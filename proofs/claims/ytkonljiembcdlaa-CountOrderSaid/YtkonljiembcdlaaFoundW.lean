/- Maps with arrays of three ints as keys, all of whose values are true, told as the list of their keys. -/
import Derived.Maps.RangeWalk
import Derived.Maps.OwnSet
import Derived.WideKeyPair
import Derived.ChangeKeys
import Derived.DeepKeys4
set_option linter.unusedVariables false
set_option linter.unusedSimpArgs false
namespace Go.Proofs.FoundW
open Go Go.Maps Go.RowKit Go.WideMaps

/-- A vector of three numbers. -/
abbrev V3 := Int × Int × Int
def vec3 (v : V3) : Value := .agg #[.int .i64 v.1, .int .i64 v.2.1, .int .i64 v.2.2]
def in64 (a : Int) : Prop := (Lit.int .i64 a).wf = true
def ok3 (v : V3) : Prop := in64 v.1 ∧ in64 v.2.1 ∧ in64 v.2.2
def lits3 (v : V3) : List Lit := [.int .i64 v.1, .int .i64 v.2.1, .int .i64 v.2.2]
def lit3 (v : V3) : Lit := .string (keyBytes (lits3 v))
theorem in64_of {a : Int} (h0 : -9223372036854775808 ≤ a) (h1 : a ≤ 9223372036854775807) : in64 a := by
  simp [in64, Lit.wf, IntKind.min, IntKind.max, IntKind.signed, IntKind.bits]; omega
theorem in64_le {a : Int} (h : in64 a) : -9223372036854775808 ≤ a ∧ a ≤ 9223372036854775807 := by
  simp [in64, Lit.wf, IntKind.min, IntKind.max, IntKind.signed, IntKind.bits] at h; omega
theorem keyWf3 {v : V3} (h : ok3 v) : ∀ a ∈ lits3 v, a.keyWf := by
  intro x hx
  simp [lits3] at hx
  rcases hx with rfl | rfl | rfl
  · exact h.1
  · exact h.2.1
  · exact h.2.2
theorem lit3_inj {a b : V3} (ha : ok3 a) (hb : ok3 b) (h : lit3 a = lit3 b) : a = b := by
  have e : keyBytes (lits3 a) = keyBytes (lits3 b) := by injection h
  have := keyBytes_inj (l := lits3 a) (l' := lits3 b) (by simp [lits3, Alike, Lit.sameKind]) (keyWf3 ha) (keyWf3 hb) e
  obtain ⟨a1, a2, a3⟩ := a
  obtain ⟨b1, b2, b3⟩ := b
  simp only [lits3, List.cons.injEq, Lit.int.injEq, true_and, and_true] at this
  obtain ⟨rfl, rfl, rfl⟩ := this
  rfl
theorem lit3_key (a : V3) : WideAt.IsKeyLit (lit3 a) := trivial

/-- What is asked of the program's types: the map's m, its keys' k, their elements' i, its values' e. -/
structure KeyOK (P : Program) (m k i e : TypeId) : Prop where
  A : ArrKey P k i 3
  hi : P.underlying i = some (.int .i64)
  he : P.underlying e = some .bool
  hm : P.underlying m = some (.map k e)
  hsz : ∃ n, P.types.size = n + 1
  K : Keyed P k
section
variable {P : Program} {m k i e : TypeId} (O : KeyOK P m k i e)
include O
theorem keyOf_vec {v : V3} (h : ok3 v) : keyOf P k (vec3 v) = some (lit3 v) := by
  have hkt := O.A.keyType O.hsz
  obtain ⟨n, hn⟩ := O.hsz
  obtain ⟨a, b, c⟩ := v
  obtain ⟨wa, wb, wc⟩ := h
  simp only [in64] at wa wb wc
  unfold keyOf vec3 lit3 lits3
  simp only [O.A.hu]
  rw [if_pos (by simp [hkt, Value.formed, O.A.hu, O.A.size]), hn]
  unfold Program.keyLits
  simp only [O.A.hu, Value.cells]
  rw [if_pos (by rw [O.A.size]; rfl), show List.range 3 = [0, 1, 2] from rfl, List.mapM_cons, List.mapM_cons, List.mapM_cons, List.mapM_nil]
  simp [O.A.one, Program.keyLits, O.hi, wa, wb, wc]
theorem keyOf_vec_inv {key : Value} {kl : Lit} (h : keyOf P k key = some kl) : ∃ v : V3, key = vec3 v ∧ kl = lit3 v ∧ ok3 v := by
  obtain ⟨n, hn⟩ := O.hsz
  unfold keyOf at h
  simp only [O.A.hu] at h
  split at h
  case isFalse => cases h
  rename_i hc
  simp only [Bool.and_eq_true] at hc
  have hf := hc.2
  rw [hn] at h
  unfold Program.keyLits at h
  simp only [O.A.hu] at h
  simp only [Option.map_eq_some_iff] at h
  obtain ⟨ls, h, rfl⟩ := h
  split at h
  case isFalse => simp at h
  rename_i hl
  rw [O.A.size] at hl
  rw [show List.range 3 = [0, 1, 2] from rfl, List.mapM_cons, List.mapM_cons, List.mapM_cons, List.mapM_nil] at h
  have hag : ∃ cs, key = .agg cs := by
    cases key <;> simp [Value.formed, O.A.hu] at hf
    exact ⟨_, rfl⟩
  obtain ⟨cs, rfl⟩ := hag
  simp only [Value.cells] at hl h
  obtain ⟨l⟩ := cs
  match l, hl with
  | [x, y, z], _ =>
    simp only [O.A.one, Nat.mul_one, List.drop_zero, List.drop_succ_cons, List.take_succ_cons, List.take_zero, bind, Option.bind_eq_some_iff, pure, Option.some.injEq, Nat.one_mul, Nat.zero_mul] at h
    rcases q0 : P.keyLits (n + 1) i [x] with _ | l0
    · simp [q0] at h
    rcases q1 : P.keyLits (n + 1) i [y] with _ | l1
    · simp [q0, q1] at h
    rcases q2 : P.keyLits (n + 1) i [z] with _ | l2
    · simp [q0, q1, q2] at h
    simp only [q0, q1, q2, Option.bind_some, Option.map_some, Option.some.injEq] at h
    subst h
    have one : ∀ {n : Nat} {x : Value} {l : List Lit}, P.keyLits n i [x] = some l → ∃ q, x = .int .i64 q ∧ l = [.int .i64 q] ∧ (Lit.int .i64 q).wf = true := fun {n x l} h => by
      cases n with
      | zero => simp [Program.keyLits] at h
      | succ n =>
        unfold Program.keyLits at h
        simp only [O.hi] at h
        cases x <;> simp at h
        obtain ⟨⟨rfl, hw⟩, rfl⟩ := h
        exact ⟨_, rfl, rfl, hw⟩
    obtain ⟨a, rfl, rfl, wa⟩ := one q0
    obtain ⟨b, rfl, rfl, wb⟩ := one q1
    obtain ⟨c, rfl, rfl, wc⟩ := one q2
    exact ⟨(a, b, c), rfl, rfl, wa, wb, wc⟩
end
/-- The datum D has the keys S, each once, all with the value true. -/
structure Tells (D : DataW Unit) (S : List V3) : Prop where
  has : ∀ s, ok3 s → Maps.has D (lit3 s) = decide (s ∈ S)
  at_ : ∀ s, s ∈ S → D.atKey (lit3 s) (.lit (.bool false)) = .lit (.bool true)
  size : Maps.size D = S.length
  nodup : S.Nodup
  ok : ∀ s, s ∈ S → ok3 s
/-- With one vector more. -/
def ins (S : List V3) (x : V3) : List V3 := if x ∈ S then S else S ++ [x]
theorem mem_ins {S : List V3} {x y : V3} : y ∈ ins S x ↔ y ∈ S ∨ y = x := by
  unfold ins
  split
  · rename_i h
    constructor
    · exact Or.inl
    · rintro (h2 | rfl)
      · exact h2
      · exact h
  · simp
theorem ins_len {S : List V3} {x : V3} : (ins S x).length ≤ S.length + 1 := by
  unfold ins
  split
  · omega
  · simp
theorem Tells.nil : Tells (.map []) [] := ⟨fun s _ => by simp [Maps.has], fun s h => by simp at h, rfl, by simp, fun s h => by simp at h⟩
theorem Tells.put {D : DataW Unit} {S : List V3} (h : Tells D S) (hD : Tidy D) {x : V3} (hx : ok3 x) : Tells (D.put (lit3 x) (.lit (.bool true))) (ins S x) := by
  refine ⟨fun s hs => ?_, fun s hs => ?_, ?_, ?_, fun s hs => ?_⟩
  · by_cases e : s = x
    · subst e
      rw [has_put_same hD.isMap (lit3_key _)]
      exact (decide_eq_true (mem_ins.2 (.inr rfl))).symm
    · rw [has_put_other (fun e' => e (lit3_inj hs hx e')), h.has s hs]
      have : s ∈ ins S x ↔ s ∈ S := by rw [mem_ins]; simp [e]
      simp [this]
  · by_cases e : s = x
    · subst e
      rw [atKey_put_same hD.isMap (lit3_key _)]
    · have hs2 : s ∈ S := (mem_ins.1 hs).resolve_right e
      rw [atKey_put_other (fun e' => e (lit3_inj (h.ok s hs2) hx e'))]
      exact h.at_ s hs2
  · rw [size_put hD, h.has x hx, h.size]
    unfold ins
    by_cases e : x ∈ S <;> simp [e]
  · unfold ins
    split
    · exact h.nodup
    · rename_i hn
      rw [List.nodup_append]
      exact ⟨h.nodup, by simp, fun a ha b hb => by simp at hb; subst hb; exact fun e => hn (e ▸ ha)⟩
  · rcases mem_ins.1 hs with h2 | rfl
    · exact h.ok s h2
    · exact hx
theorem Tells.del {D : DataW Unit} {S : List V3} (h : Tells D S) (hD : Tidy D) {x : V3} (hx : x ∈ S) : Tells (D.del (lit3 x)) (S.filter fun s => !decide (s = x)) := by
  have hxo := h.ok x hx
  refine ⟨fun s hs => ?_, fun s hs => ?_, ?_, h.nodup.filter _, fun s hs => h.ok s (List.mem_filter.1 hs).1⟩
  · by_cases e : s = x
    · subst e
      rw [has_del_same]
      symm
      simp
    · rw [has_del_other (fun e' => e (lit3_inj hs hxo e')), h.has s hs]
      simp [List.mem_filter, e]
  · obtain ⟨h1, h2⟩ := List.mem_filter.1 hs
    have e : s ≠ x := by simpa using h2
    rw [atKey_del_other (fun e' => e (lit3_inj (h.ok s h1) hxo e'))]
    exact h.at_ s h1
  · have h3 := size_del (k := lit3 x) hD
    rw [h.has x hxo, h.size] at h3
    have e : (S.filter fun s => !decide (s = x)) = S.erase x := by
      rw [h.nodup.erase_eq_filter]
      congr 1
      funext y
      by_cases hy : y = x <;> simp [hy]
    rw [e, List.length_erase_of_mem hx]
    simp [hx] at h3
    omega

/-- Block b is a map whose keys are S's, each once. -/
def FoundOf (P : Program) (k e : TypeId) (w : World) (b : Nat) (S : List V3) : Prop :=
  ∃ D : DataW Unit, w.ownsMap P k (plainElem P e) b S.length D ∧ Tells D S
theorem owns_size {P : Program} {k : TypeId} {R : Value → Option (DataW Unit × List MemPlace)} {w : World} {b n : Nat} {D : DataW Unit} (h : w.ownsMap P k R b n D) : w.ownsMap P k R b (Maps.size D) D := by
  obtain ⟨es, clock, hb, F, hs, rfl⟩ := h
  exact ⟨es, clock, hb, F, by simp [Maps.size, length_sorted], rfl⟩
section
variable {P : Program} {m k i e : TypeId} {w w' : World} {b r : Nat} {S : List V3} {L : V3 → Bool}
theorem FoundOf.mk {n : Nat} {D : DataW Unit} (h : w.ownsMap P k (plainElem P e) b n D) (ht : Tells D S) : FoundOf P k e w b S := ⟨D, by rw [← ht.size]; exact owns_size h, ht⟩
theorem FoundOf.heap (h : FoundOf P k e w b S) (hb : w'.heap[b]? = w.heap[b]?) : FoundOf P k e w' b S := by
  obtain ⟨D, ⟨es, clock, h1, h2⟩, h3⟩ := h
  exact ⟨D, ⟨es, clock, hb.trans h1, h2⟩, h3⟩
theorem FoundOf.lt (h : FoundOf P k e w b S) : b < w.heap.size := by
  obtain ⟨D, h, _⟩ := h
  exact h.lt
theorem FoundOf.below (h : FoundOf P k e w b S) (hb : Below w.heap.size w w') : FoundOf P k e w' b S := h.heap (hb.block b h.lt)
theorem FoundOf.made (w : World) : FoundOf P k e (w.alloc (.map #[] 0)) w.heap.size [] := ⟨.map [], World.ownsMap_made _ _ _ _, Tells.nil⟩
theorem FoundOf.ok (h : FoundOf P k e w b S) : ∀ s, s ∈ S → ok3 s := by obtain ⟨D, _, h⟩ := h; exact h.ok
theorem FoundOf.nodup (h : FoundOf P k e w b S) : S.Nodup := by obtain ⟨D, _, h⟩ := h; exact h.nodup
/-- 'for v := range m' under way: L tells which are still to come. -/
def RangeOf (P : Program) (k e : TypeId) (w : World) (b r : Nat) (S : List V3) (L : V3 → Bool) : Prop :=
  ∃ (D : DataW Unit) (n : Nat) (left : Lit → Bool) (cnt : Nat), w.ranges P k (plainElem P e) b r n D left cnt ∧ Tells D S ∧ ∀ s, ok3 s → left (lit3 s) = L s
theorem RangeOf.found (h : RangeOf P k e w b r S L) : FoundOf P k e w b S := by
  obtain ⟨D, n, left, cnt, hr, ht, _⟩ := h
  exact .mk hr.owns ht
theorem RangeOf.lt (h : RangeOf P k e w b r S L) : b < w.heap.size ∧ r < w.heap.size := by
  obtain ⟨D, n, left, cnt, hr, _⟩ := h
  exact ⟨hr.owns.lt, hr.lt⟩
theorem RangeOf.ne (h : RangeOf P k e w b r S L) : r ≠ b := by
  obtain ⟨D, n, left, cnt, hr, _⟩ := h
  exact hr.ne
theorem RangeOf.heap (h : RangeOf P k e w b r S L) (hb : w'.heap[b]? = w.heap[b]?) (hr : w'.heap[r]? = w.heap[r]?) : RangeOf P k e w' b r S L := by
  obtain ⟨D, n, left, cnt, ⟨es, clock, since, seen, c0, a1, a2, a3, a4, a5, a6⟩, h3⟩ := h
  exact ⟨D, n, left, cnt, ⟨es, clock, since, seen, c0, hb.trans a1, a2, a3, a4, hr.trans a5, a6⟩, h3⟩
theorem RangeOf.below (h : RangeOf P k e w b r S L) (hb : Below w.heap.size w w') : RangeOf P k e w' b r S L := h.heap (hb.block b h.lt.1) (hb.block r h.lt.2)
theorem RangeOf.kept (h : RangeOf P k e w b r S L) {row : Nat} (hg : w.grownBy w' (some row)) (hb : b ≠ row) (hr : r ≠ row) : RangeOf P k e w' b r S L :=
  h.heap (hg.block b h.lt.1 (fun e => hb (by injection e))) (hg.block r h.lt.2 (fun e => hr (by injection e)))
theorem FoundOf.kept (h : FoundOf P k e w b S) {row : Nat} (hg : w.grownBy w' (some row)) (hb : b ≠ row) : FoundOf P k e w' b S :=
  h.heap (hg.block b h.lt (fun e => hb (by injection e)))
theorem left_heap (hb : w'.heap[b]? = w.heap[b]?) (hr : w'.heap[r]? = w.heap[r]?) : w'.rangeLeft b r = w.rangeLeft b r := by unfold World.rangeLeft; rw [hb, hr]
end
section
variable {P : Program} {m k i e : TypeId} (O : KeyOK P m k i e) (w : World) {ops : Array Oper} {rest : List Oper} {o : Oper} {a : Act} {Q : Exit → Act → World → Prop}
theorem wpList_insert_own {H : Type} (hg : o.guard = none) (m x v : Operand) (t : TypeId) (hop : o.op = Op.insert t m x v)
    (k e : TypeId) (K : Keyed P k) (ht : P.underlying t = some (.map k e)) (R : Value → Option (DataW H × List MemPlace)) (b n : Nat) (D : DataW H)
    (hm : a.eval m = .map (some b)) (hown : w.ownsMap P k R b n D) (hn : n < maxLen) (key val : Value) (kl : Lit) (hx : a.eval x = key) (hv : a.eval v = val) (hkey : keyOf P k key = some kl)
    (d : DataW H) (ps : List MemPlace) (hval : R val = some (d, ps))
    (hK : ∀ w', w'.ownsMap P k R b (n + 1) (D.put kl d) → w.grownBy w' (some b) → wpList P ops Q rest (a.put o.dst undef) w') :
    wpList P ops Q (o :: rest) a w := by
  refine wpList_plain hg fun K' hK' => ?_
  obtain ⟨w', hrun, r1, r2⟩ := hown.update K ht hn hkey hval
  unfold Oper.wp
  simp [execOp, hop, hm, hx, hv, hrun, Result.andThen]
  exact hK' _ _ (hK w' r1 r2)
theorem made_found (hg : o.guard = none) (t k e : TypeId) (hop : o.op = Op.makeMap t none)
    (hK : ∀ b w', w.heap.size = b → FoundOf P k e w' b [] → Below w.heap.size w w' → wpList P ops Q rest (a.put o.dst (.map (some b))) w') : wpList P ops Q (o :: rest) a w := by
  refine wpList_plain hg fun K' hK' => ?_
  have hrun := run_makeMap (P := P) t w
  unfold Oper.wp
  simp [execOp, hop, hrun, Result.andThen]
  exact hK' _ _ (hK _ _ rfl (FoundOf.made w) ((Below.refl _ _).alloc (Nat.le_refl _) _))
include O
/-- A literal's key. -/
theorem insert_found (hg : o.guard = none) (x v y : Operand) (hop : o.op = Op.insert m x v y) (b : Nat) (S : List V3)
    (hm : a.eval x = .map (some b)) (hS : FoundOf P k e w b S) (hn : S.length < maxLen) (s : V3) (hx : a.eval v = vec3 s) (hs : ok3 s) (hv : a.eval y = .bool true)
    (hK : ∀ w', FoundOf P k e w' b (ins S s) → w.grownBy w' (some b) → wpList P ops Q rest (a.put o.dst undef) w') : wpList P ops Q (o :: rest) a w := by
  obtain ⟨D, h1, h2⟩ := hS
  exact wpList_insert_own w hg x v y m hop k e O.K O.hm (plainElem P e) b S.length D hm h1 hn _ _ _ hx hv (keyOf_vec O hs) _ [] (plainElem_bool O.he true) (fun w' ho hg' => hK w' (.mk ho (h2.put (h1.tidy O.K) hs)) hg')
theorem update_found (hg : o.guard = none) (x v y : Operand) (hop : o.op = Op.mapUpdate m x v y) (b : Nat) (S : List V3)
    (hm : a.eval x = .map (some b)) (hS : FoundOf P k e w b S) (hn : S.length < maxLen) (s : V3) (hx : a.eval v = vec3 s) (hs : ok3 s) (hv : a.eval y = .bool true)
    (hK : ∀ w', FoundOf P k e w' b (ins S s) → w.grownBy w' (some b) → wpList P ops Q rest (a.put o.dst undef) w') : wpList P ops Q (o :: rest) a w := by
  obtain ⟨D, h1, h2⟩ := hS
  exact wpList_mapUpdate_own w hg x v y m hop k e O.K O.hm (plainElem P e) b S.length D hm h1 hn _ _ _ hx hv (keyOf_vec O hs) _ [] (plainElem_bool O.he true) (fun w' ho hg' => hK w' (.mk ho (h2.put (h1.tidy O.K) hs)) hg')
theorem len_found (hg : o.guard = none) (x : Operand) (hop : o.op = Op.call { callee := Callee.builtin Builtin.len, args := #[x], argTypes := #[m] }) (b : Nat) (S : List V3)
    (hm : a.eval x = .map (some b)) (hS : FoundOf P k e w b S) (hK : wpList P ops Q rest (a.put o.dst (.int .i64 S.length)) w) : wpList P ops Q (o :: rest) a w := by
  obtain ⟨D, h1, h2⟩ := hS
  refine wpList_len_own w hg x m hop k e O.hm (plainElem P e) b S.length D hm h1 ?_
  rw [h2.size]; exact hK
theorem lookup_found (hg : o.guard = none) (x v : Operand) (hop : o.op = Op.lookup m x v false) (hz : (zeroValue e).run P w = .ok (.bool false) w) (b : Nat) (S : List V3)
    (hm : a.eval x = .map (some b)) (hS : FoundOf P k e w b S) (s : V3) (hx : a.eval v = vec3 s) (hs : ok3 s)
    (hK : wpList P ops Q rest (a.put o.dst (.bool (decide (s ∈ S)))) w) : wpList P ops Q (o :: rest) a w := by
  obtain ⟨D, h1, h2⟩ := hS
  refine wpList_plain hg fun K' hK' => ?_
  obtain ⟨v', ps, hrun, hv⟩ := h1.lookup O.K O.hm hz (plainElem_bool O.he false) (keyOf_vec O hs)
  have hb : v' = .bool (decide (s ∈ S)) := by
    unfold plainElem at hv
    rw [O.he] at hv
    cases v' <;> simp at hv
    rename_i c
    by_cases hm : s ∈ S
    · rw [h2.at_ s hm] at hv
      simp at hv
      simp [hm, hv.1]
    · have hh := h2.has s hs
      rw [decide_eq_false hm] at hh
      rw [atKey_of_not_has hh] at hv
      simp at hv
      simp [hm, hv.1]
  unfold Oper.wp
  simp [execOp, hop, hm, hx, hrun, Result.andThen]
  rw [hb]
  exact hK' _ _ hK
theorem range_found (hg : o.guard = none) (x : Operand) (hop : o.op = Op.range m x) (b : Nat) (S : List V3)
    (hm : a.eval x = .map (some b)) (hS : FoundOf P k e w b S)
    (hK : ∀ r w', w.heap.size = r → RangeOf P k e w' b r S (fun s => decide (s ∈ S)) → Below w.heap.size w w' → wpList P ops Q rest (a.put o.dst (.pointer (some ⟨r, 0, none⟩))) w') : wpList P ops Q (o :: rest) a w := by
  obtain ⟨D, h1, h2⟩ := hS
  exact wpList_range_own w hg x m hop k e O.K O.hm (plainElem P e) b S.length D hm h1 (fun w' hr hg' _ => hK _ w' rfl ⟨D, _, _, _, hr, h2, h2.has⟩ ((Below.refl _ _).grown hg' (Nat.le_refl _) (by simp)))
theorem next_found (hg : o.guard = none) (it : Operand) (hop : o.op = Op.next it false) (b r : Nat) (S : List V3) (L : V3 → Bool)
    (hit : a.eval it = .pointer (some ⟨r, 0, none⟩)) (h : RangeOf P k e w b r S L)
    (hDone : (∀ s, ok3 s → L s = false) → wpList P ops Q rest (a.put o.dst (.tuple #[.bool false])) w)
    (hMore : ∀ (s : V3) (c : Bool) (w' : World), ok3 s → s ∈ S → L s = true → RangeOf P k e w' b r S (fun z => L z && !decide (z = s)) → w'.rangeLeft b r < w.rangeLeft b r → w.grownBy w' (some r) → w'.heap.size = w.heap.size →
      (Instr.entry (.pointer (some ⟨r, 0, none⟩))).run P w' = .ok (.tuple #[vec3 s, .bool c]) w' → wpList P ops Q rest (a.put o.dst (.tuple #[.bool true, vec3 s, .bool c])) w') :
    wpList P ops Q (o :: rest) a w := by
  obtain ⟨D, n, left, cnt, hr, ht, hl⟩ := h
  refine wpList_next_ranges w hg it hop k O.K (plainElem P e) vec3 Value.bool (fun key kl hkey => by obtain ⟨x, rfl, _⟩ := keyOf_vec_inv O hkey; exact ⟨x, rfl⟩)
    (fun v y hv => by
      unfold plainElem at hv
      rw [O.he] at hv
      cases v <;> simp at hv
      exact ⟨_, rfl⟩)
    b r n D left cnt hit hr (fun _ h0 => hDone fun s hs => by rw [← hl s hs]; exact h0 _) (fun x c kl y w' cnt' hkey hlk hv hat hrg hlt hgr hsz hen => ?_)
  obtain ⟨x', ex, rfl, hox⟩ := keyOf_vec_inv O hkey
  obtain rfl : x = x' := by
    obtain ⟨x1, x2, x3⟩ := x
    obtain ⟨y1, y2, y3⟩ := x'
    simpa [vec3] using ex
  have hmem : x ∈ S := by
    have := ht.has x hox
    rw [has_true_of_atKey hat] at this
    simpa using this.symm
  refine hMore x c w' hox hmem (by rw [← hl x hox]; exact hlk) ⟨D, n, _, cnt', hrg, ht, fun s hs => ?_⟩ (by rw [hrg.left_eq, hr.left_eq]; exact hlt) hgr hsz hen
  rw [hl s hs]
  congr 1
  by_cases es : s = x
  · subst es; rw [WideAt.sameKey_self (lit3_key _)]; simp
  · rw [sameKey_ne (fun e' => es (lit3_inj hs hox e'))]; simp [es]
/-- 'delete(m, v)' in the round of v. -/
theorem delete_found (hg : o.guard = none) (x v : Operand) (hop : o.op = Op.call { callee := Callee.builtin Builtin.delete, args := #[x, v], argTypes := #[m, k] }) (b r : Nat) (S : List V3) (L : V3 → Bool)
    (hm : a.eval x = .map (some b)) (h : RangeOf P k e w b r S L) (s : V3) (hx : a.eval v = vec3 s) (hs : s ∈ S) (hL : L s = false)
    (hK : ∀ w', RangeOf P k e w' b r (S.filter fun z => !decide (z = s)) L → w'.rangeLeft b r ≤ w.rangeLeft b r → w.grownBy w' (some b) → w'.heap.size = w.heap.size → wpList P ops Q rest (a.put o.dst (.tuple #[])) w') : wpList P ops Q (o :: rest) a w := by
  obtain ⟨D, n, left, cnt, hr, ht, hl⟩ := h
  have hso := ht.ok s hs
  refine wpList_delete_ranges w hg x v m k hop e O.K O.hm (plainElem P e) b r n D left cnt hm hr _ _ hx (keyOf_vec O hso) (fun w' cnt' hrg hle hturn => ?_)
  have hsz : w'.heap.size = w.heap.size ∧ w.grownBy w' (some b) := by
    obtain ⟨es, clock, es', clock', hb, rfl⟩ := hturn
    exact ⟨by simp [ChangeMaps.setBlock], ⟨rfl, rfl, rfl, by simp [ChangeMaps.setBlock], fun j _ hj => ChangeMaps.heap_setBlock_other hb _ (fun e => hj (by rw [e]))⟩⟩
  refine hK w' ⟨_, n, _, cnt', hrg, ht.del (hr.owns.tidy O.K) hs, fun z hz => ?_⟩ (by rw [hrg.left_eq, hr.left_eq]; exact hle) hsz.2 hsz.1
  rw [hl z hz]
  by_cases ez : z = s
  · subst ez; rw [hL]; rfl
  · rw [sameKey_ne (fun e' => ez (lit3_inj hz hso e'))]; simp
end
end Go.Proofs.FoundW
