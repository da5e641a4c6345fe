/- Maps with strings as keys, told as the list of their keys. -/
import Derived.Maps.RangeWalk
import Derived.Maps.OwnSet
import Derived.StringKeys
set_option linter.unusedVariables false
namespace Go.Proofs.SetW
open Go Go.Maps Go.RowKit

theorem keyOf_string_inv {P : Program} {k : TypeId} (hk : P.underlying k = some .string) {key : Value} {kl : Lit} (h : keyOf P k key = some kl) : ∃ x : ByteArray, key = .string x ∧ kl = .string x.data.toList := by
  cases key <;> simp [keyOf, hk, mapKey] at h
  obtain ⟨_, rfl⟩ := h
  exact ⟨_, rfl, rfl⟩
theorem plainElem_bool_inv {P : Program} {e : TypeId} (he : P.underlying e = some .bool) {v : Value} {z : DataW Unit × List MemPlace} (h : plainElem P e v = some z) : ∃ c, v = .bool c := by
  unfold plainElem at h
  rw [he] at h
  cases v <;> simp at h
  exact ⟨_, rfl⟩
theorem same_string (a b : List UInt8) : (Lit.string a).sameKey (.string b) = decide (a = b) := by
  by_cases h : a = b
  · subst h; rw [WideAt.sameKey_self (a := .string a) (show WideAt.IsKeyLit (.string a) from trivial)]; simp
  · rw [sameKey_ne (fun e => h (by injection e))]; simp [h]
/-- Block b is a map whose keys are S's, each once. -/
def SetOf (P : Program) (k e : TypeId) (w : World) (b : Nat) (S : List (List UInt8)) : Prop :=
  ∃ D : DataW Unit, w.ownsMap P k (plainElem P e) b S.length D ∧ (∀ s, has D (.string s) = decide (s ∈ S)) ∧ size D = S.length
section
variable {P : Program} {k e : TypeId} {w w' : World} {b r : Nat} {S T : List (List UInt8)}
theorem SetOf.heap (h : SetOf P k e w b S) (hb : w'.heap[b]? = w.heap[b]?) : SetOf P k e w' b S := by
  obtain ⟨D, ⟨es, clock, h1, h2⟩, h3⟩ := h
  exact ⟨D, ⟨es, clock, hb.trans h1, h2⟩, h3⟩
theorem SetOf.lt (h : SetOf P k e w b S) : b < w.heap.size := by
  obtain ⟨D, h, _⟩ := h
  exact h.lt
theorem SetOf.below (h : SetOf P k e w b S) (hb : Below w.heap.size w w') : SetOf P k e w' b S := h.heap (hb.block b h.lt)
theorem SetOf.alloc (h : SetOf P k e w b S) (o : Obj) : SetOf P k e (w.alloc o) b S := h.heap (Below.heap_alloc w o b h.lt)
theorem SetOf.made (w : World) : SetOf P k e (w.alloc (.map #[] 0)) w.heap.size [] := ⟨.map [], World.ownsMap_made _ _ _ _, fun s => by simp [has], rfl⟩
theorem SetOf.put (K : Keyed P k) (h : SetOf P k e w b S) {s : List UInt8} (hs : s ∉ S) {D : DataW Unit} (hD : w.ownsMap P k (plainElem P e) b S.length D) (hH : ∀ s, has D (.string s) = decide (s ∈ S)) (hZ : size D = S.length) (d : DataW Unit)
    (ho : w'.ownsMap P k (plainElem P e) b (S.length + 1) (D.put (.string s) d)) : SetOf P k e w' b (S ++ [s]) := by
  refine ⟨D.put (.string s) d, by simpa using ho, fun t => ?_, ?_⟩
  · by_cases ht : t = s
    · subst ht
      rw [has_put_same (hD.tidy K).isMap (show WideAt.IsKeyLit (.string t) from trivial)]; simp
    · rw [has_put_other (fun e => ht (by injection e)), hH]; simp [ht]
  · rw [size_put (hD.tidy K), hH, hZ]; simp [hs]
/-- 'for s := range m' under way: those of T are done. -/
def RangeOf (P : Program) (k e : TypeId) (w : World) (b r : Nat) (S T : List (List UInt8)) : Prop :=
  T.Nodup ∧ (∀ s ∈ T, s ∈ S) ∧ ∃ (D : DataW Unit) (left : Lit → Bool) (cnt : Nat), w.ranges P k (plainElem P e) b r S.length D left cnt ∧ ∀ s, left (.string s) = decide (s ∈ S ∧ s ∉ T)
theorem RangeOf.lt (h : RangeOf P k e w b r S T) : b < w.heap.size ∧ r < w.heap.size := by
  obtain ⟨_, _, D, left, cnt, hr, _⟩ := h
  exact ⟨hr.owns.lt, hr.lt⟩
theorem RangeOf.ne (h : RangeOf P k e w b r S T) : r ≠ b := by
  obtain ⟨_, _, D, left, cnt, hr, _⟩ := h
  exact hr.ne
theorem RangeOf.heap (h : RangeOf P k e w b r S T) (hb : w'.heap[b]? = w.heap[b]?) (hr : w'.heap[r]? = w.heap[r]?) : RangeOf P k e w' b r S T := by
  obtain ⟨h1, h2, D, left, cnt, ⟨es, clock, since, seen, c0, a1, a2, a3, a4, a5, a6⟩, h3⟩ := h
  exact ⟨h1, h2, D, left, cnt, ⟨es, clock, since, seen, c0, hb.trans a1, a2, a3, a4, hr.trans a5, a6⟩, h3⟩
theorem RangeOf.below (h : RangeOf P k e w b r S T) (hb : Below w.heap.size w w') : RangeOf P k e w' b r S T := h.heap (hb.block b h.lt.1) (hb.block r h.lt.2)
theorem left_heap (hb : w'.heap[b]? = w.heap[b]?) (hr : w'.heap[r]? = w.heap[r]?) : w'.rangeLeft b r = w.rangeLeft b r := by unfold World.rangeLeft; rw [hb, hr]
end
section
variable {P : Program} (w : World) {ops : Array Oper} {rest : List Oper} {o : Oper} {a : Act} {Q : Exit → Act → World → Prop}
theorem wpList_insert_own {H : Type} (hg : o.guard = none) (m x v : Operand) (t : TypeId) (hop : o.op = Op.insert t m x v)
    (k e : TypeId) (K : Keyed P k) (ht : P.underlying t = some (.map k e)) (R : Value → Option (DataW H × List MemPlace)) (b n : Nat) (D : DataW H)
    (hm : a.eval m = .map (some b)) (hown : w.ownsMap P k R b n D) (hn : n < maxLen) (key val : Value) (kl : Lit) (hx : a.eval x = key) (hv : a.eval v = val) (hkey : keyOf P k key = some kl)
    (d : DataW H) (ps : List MemPlace) (hval : R val = some (d, ps))
    (hK : ∀ w', w'.ownsMap P k R b (n + 1) (D.put kl d) → w.grownBy w' (some b) → wpList P ops Q rest (a.put o.dst undef) w') :
    wpList P ops Q (o :: rest) a w := by
  refine wpList_plain hg fun K' hK' => ?_
  obtain ⟨w', hrun, r1, r2⟩ := hown.update K ht hn hkey hval
  unfold Oper.wp
  simp [execOp, hop, hm, hx, hv, hrun, Result.andThen]
  exact hK' _ _ (hK w' r1 r2)
theorem made_set (hg : o.guard = none) (t k e : TypeId) (hop : o.op = Op.makeMap t none)
    (hK : ∀ b w', w.heap.size = b → SetOf P k e w' b [] → Below w.heap.size w w' → wpList P ops Q rest (a.put o.dst (.map (some b))) w') : wpList P ops Q (o :: rest) a w := by
  refine wpList_plain hg fun K' hK' => ?_
  have hrun := run_makeMap (P := P) t w
  unfold Oper.wp
  simp [execOp, hop, hrun, Result.andThen]
  exact hK' _ _ (hK _ _ rfl (SetOf.made w) ((Below.refl _ _).alloc (Nat.le_refl _) _))
/-- A literal's key. -/
theorem insert_set (hg : o.guard = none) (m x v : Operand) (t k e : TypeId) (hop : o.op = Op.insert t m x v) (hk : P.underlying k = some .string) (he : P.underlying e = some .bool) (ht : P.underlying t = some (.map k e)) (b : Nat) (S : List (List UInt8))
    (hm : a.eval m = .map (some b)) (hS : SetOf P k e w b S) (hn : S.length < maxLen) (s : ByteArray) (hx : a.eval x = .string s) (hs : s.size ≤ maxLen) (c : Bool) (hv : a.eval v = .bool c) (hne : s.data.toList ∉ S)
    (hK : ∀ w', SetOf P k e w' b (S ++ [s.data.toList]) → w.grownBy w' (some b) → wpList P ops Q rest (a.put o.dst undef) w') : wpList P ops Q (o :: rest) a w := by
  have h0 := hS
  obtain ⟨D, h1, h2, h3⟩ := hS
  exact wpList_insert_own w hg m x v t hop k e (string_keyed hk) ht (plainElem P e) b S.length D hm h1 hn _ _ _ hx hv (WideMaps.keyOf_string_mk hk hs) _ [] (plainElem_bool he c) (fun w' ho hg' => hK w' (h0.put (string_keyed hk) hne h1 h2 h3 _ ho) hg')
theorem update_set (hg : o.guard = none) (m x v : Operand) (t k e : TypeId) (hop : o.op = Op.mapUpdate t m x v) (hk : P.underlying k = some .string) (he : P.underlying e = some .bool) (ht : P.underlying t = some (.map k e)) (b : Nat) (S : List (List UInt8))
    (hm : a.eval m = .map (some b)) (hS : SetOf P k e w b S) (hn : S.length < maxLen) (s : ByteArray) (hx : a.eval x = .string s) (hs : s.size ≤ maxLen) (c : Bool) (hv : a.eval v = .bool c) (hne : s.data.toList ∉ S)
    (hK : ∀ w', SetOf P k e w' b (S ++ [s.data.toList]) → w.grownBy w' (some b) → wpList P ops Q rest (a.put o.dst undef) w') : wpList P ops Q (o :: rest) a w := by
  have h0 := hS
  obtain ⟨D, h1, h2, h3⟩ := hS
  exact wpList_mapUpdate_own w hg m x v t hop k e (string_keyed hk) ht (plainElem P e) b S.length D hm h1 hn _ _ _ hx hv (WideMaps.keyOf_string_mk hk hs) _ [] (plainElem_bool he c) (fun w' ho hg' => hK w' (h0.put (string_keyed hk) hne h1 h2 h3 _ ho) hg')
theorem len_set (hg : o.guard = none) (m : Operand) (t k e : TypeId) (hop : o.op = Op.call { callee := Callee.builtin Builtin.len, args := #[m], argTypes := #[t] }) (ht : P.underlying t = some (.map k e)) (b : Nat) (S : List (List UInt8))
    (hm : a.eval m = .map (some b)) (hS : SetOf P k e w b S) (hK : wpList P ops Q rest (a.put o.dst (.int .i64 S.length)) w) : wpList P ops Q (o :: rest) a w := by
  obtain ⟨D, h1, h2, h3⟩ := hS
  refine wpList_len_own w hg m t hop k e ht (plainElem P e) b S.length D hm h1 ?_
  rw [h3]; exact hK
theorem range_set (hg : o.guard = none) (m : Operand) (t k e : TypeId) (hop : o.op = Op.range t m) (hk : P.underlying k = some .string) (ht : P.underlying t = some (.map k e)) (b : Nat) (S : List (List UInt8))
    (hm : a.eval m = .map (some b)) (hS : SetOf P k e w b S)
    (hK : ∀ r w', w.heap.size = r → RangeOf P k e w' b r S [] → Below w.heap.size w w' → wpList P ops Q rest (a.put o.dst (.pointer (some ⟨r, 0, none⟩))) w') : wpList P ops Q (o :: rest) a w := by
  obtain ⟨D, h1, h2, h3⟩ := hS
  exact wpList_range_own w hg m t hop k e (string_keyed hk) ht (plainElem P e) b S.length D hm h1 (fun w' hr hg' _ => hK _ w' rfl ⟨List.nodup_nil, by simp, D, _, _, hr, fun s => by rw [h2]; simp⟩ ((Below.refl _ _).grown hg' (Nat.le_refl _) (by simp)))
theorem next_set (hg : o.guard = none) (it : Operand) (hop : o.op = Op.next it false) (k e : TypeId) (hk : P.underlying k = some .string) (he : P.underlying e = some .bool) (b r : Nat) (S T : List (List UInt8))
    (hit : a.eval it = .pointer (some ⟨r, 0, none⟩)) (h : RangeOf P k e w b r S T)
    (hDone : (∀ s ∈ S, s ∈ T) → wpList P ops Q rest (a.put o.dst (.tuple #[.bool false])) w)
    (hMore : ∀ (s : ByteArray) (c : Bool) (w' : World), s.data.toList ∈ S → s.data.toList ∉ T → RangeOf P k e w' b r S (T ++ [s.data.toList]) → w'.rangeLeft b r < w.rangeLeft b r → w.grownBy w' (some r) → w'.heap.size = w.heap.size →
      (Instr.entry (.pointer (some ⟨r, 0, none⟩))).run P w' = .ok (.tuple #[.string s, .bool c]) w' → wpList P ops Q rest (a.put o.dst (.tuple #[.bool true, .string s, .bool c])) w') :
    wpList P ops Q (o :: rest) a w := by
  obtain ⟨hn, hT, D, left, cnt, hr, hl⟩ := h
  refine wpList_next_ranges w hg it hop k (string_keyed hk) (plainElem P e) Value.string Value.bool (fun key kl hkey => by obtain ⟨x, rfl, _⟩ := keyOf_string_inv hk hkey; exact ⟨x, rfl⟩) (fun v y hv => plainElem_bool_inv he hv)
    b r S.length D left cnt hit hr (fun _ h0 => hDone fun s hs => ?_) (fun x c kl y w' cnt' hkey hlk hv hat hrg hlt hgr hsz hen => ?_)
  · have := h0 (.string s)
    rw [hl] at this
    simpa [hs] using this
  · obtain ⟨x', ex, rfl⟩ := keyOf_string_inv hk hkey
    cases ex
    rw [hl] at hlk
    have hm : x.data.toList ∈ S ∧ x.data.toList ∉ T := by simpa using hlk
    refine hMore x c w' hm.1 hm.2 ⟨?_, ?_, D, _, cnt', hrg, fun s => ?_⟩ (by rw [hrg.left_eq, hr.left_eq]; exact hlt) hgr hsz hen
    · rw [List.nodup_append]
      exact ⟨hn, by simp, fun a ha b' hb' => by simp at hb'; subst hb'; exact fun e => hm.2 (e ▸ ha)⟩
    · intro s hs
      rcases List.mem_append.1 hs with h | h
      · exact hT s h
      · simp at h; subst h; exact hm.1
    · show (left (.string s) && !(Lit.string s).sameKey (.string x.data.toList)) = _
      rw [hl, same_string]
      by_cases h1 : s ∈ S <;> by_cases h2 : s ∈ T <;> by_cases h3 : s = x.data.toList <;> simp [h1, h2, h3]
end
end Go.Proofs.SetW
