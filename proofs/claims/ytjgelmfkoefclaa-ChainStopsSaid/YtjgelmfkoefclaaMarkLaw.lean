/- The ideal book: what it holds, what a mark is, and what a call of it keeps. -/
import Derived.Maps.OwnSet
import Derived.Maps.Ext
import Derived.StringKeys
import Derived.Test.YtjgelmfkoefclaaPAllx0
namespace Go.Proofs.Ytjgelmfkoefclaa.PAll
open Go.RowKit Go.Proofs.YtjgelmfkoefclaaW.PrintWords Go.Proofs.YtjgelmfkoefclaaW.PrintLast Go.Proofs.YtjgelmfkoefclaaW.PrintMore
set_option linter.unusedVariables false
set_option linter.unusedSimpArgs false

instance baLaw : LawfulBEq ByteArray where
  eq_of_beq {a b} h := by
    have h2 : (a.data == b.data) = true := h
    exact ByteArray.ext (by simpa using h2)
  rfl {a} := by
    show (a.data == a.data) = true
    simp
/-! ### a number as a mark -/
def numB (n : Int) (i : Nat) : Int := (shr .i64 n (8 * ((i % 8 : Nat) : Int))) % 256
def numV (n : Int) : ByteArray := strOfNums ((List.range 32).map (numB n))
theorem strOfNums_size (xs : List Int) : (strOfNums xs).size = xs.length := by simp [strOfNums, ByteArray.size]
theorem numV_size (n : Int) : (numV n).size = 32 := by unfold numV; rw [strOfNums_size]; simp
theorem strOfNums_get (xs : List Int) (i : Nat) (h : i < xs.length) (h0 : 0 ≤ xs[i]) (h1 : xs[i] < 256) : bt (strOfNums xs) (i : Nat) = xs[i] := by
  unfold bt
  rw [dif_pos (by rw [strOfNums_size]; simpa using h)]
  simp only [Int.toNat_natCast]
  have e : (strOfNums xs)[i]'(by rw [strOfNums_size]; exact h) = UInt8.ofNat (xs[i]).toNat := by
    unfold strOfNums
    show (List.map (fun n => UInt8.ofNat n.toNat) xs).toArray[i]'(by simpa using h) = _
    simp
  rw [e]
  simp only [UInt8.toNat_ofNat']
  omega
theorem numB_bounds (n : Int) (i : Nat) : 0 ≤ numB n i ∧ numB n i < 256 := by unfold numB; omega
theorem numV_get (n : Int) (i : Nat) (h : i < 32) : bt (numV n) (i : Nat) = numB n i := by
  unfold numV
  have hl : i < ((List.range 32).map (numB n)).length := by simpa using h
  have hg : ((List.range 32).map (numB n))[i] = numB n i := by simp
  have hb := numB_bounds n i
  rw [strOfNums_get _ i hl (by rw [hg]; exact hb.1) (by rw [hg]; exact hb.2), hg]
theorem numB_nat (n : Nat) (j : Nat) (hj : j < 8) : numB n j = ((n / 2 ^ (8 * j) % 256 : Nat) : Int) := by
  unfold numB shr
  rw [show j % 8 = j by omega]
  have h1 : (8 * ((j : Nat) : Int)).toNat = 8 * j := by omega
  rw [h1, show IntKind.i64.bits = 64 from rfl, Nat.min_eq_left (by omega)]
  rw [Int.natCast_emod, Int.natCast_ediv, Int.natCast_pow]
  rfl
theorem numV_inj (n m : Nat) (hn : n < 16777216) (hm : m < 16777216) (h : numV n = numV m) : n = m := by
  have e : ∀ j, j < 8 → n / 2 ^ (8 * j) % 256 = m / 2 ^ (8 * j) % 256 := fun j hj => by
    have h1 := numV_get n j (by omega)
    have h2 := numV_get m j (by omega)
    rw [h, h2, numB_nat n j hj, numB_nat m j hj] at h1
    omega
  have e0 := e 0 (by omega)
  have e1 := e 1 (by omega)
  have e2 := e 2 (by omega)
  simp only [Nat.mul_zero, Nat.pow_zero, Nat.div_one, Nat.mul_one, show 8 * 2 = 16 from rfl, show (2 : Nat) ^ 8 = 256 from rfl, show (2 : Nat) ^ 16 = 65536 from rfl] at e0 e1 e2
  omega
/-- The bytes that are laid so far. -/
def numC (n : Int) (i : Nat) : Array Value := ((List.range i).map (fun j => Value.int .u8 (numB n j)) ++ List.replicate (32 - i) (Value.int .u8 0)).toArray
theorem numC_get (n : Int) (i : Nat) (h : i < 32) : (numC n i)[i]? = some (.int .u8 0) := by
  unfold numC
  rw [List.getElem?_toArray, List.getElem?_append_right (by simp), List.getElem?_replicate]
  simp only [List.length_map, List.length_range, Nat.sub_self]
  rw [if_pos (by omega)]
theorem numC_put (n : Int) (i : Nat) (h : i < 32) : (numC n i).setIfInBounds i (.int .u8 (numB n i)) = numC n (i + 1) := by
  unfold numC
  rw [List.setIfInBounds_toArray, List.set_append_right (h := by simp), List.range_succ, List.map_append, List.append_assoc]
  congr 2
  rw [show 32 - i = (32 - (i + 1)) + 1 by omega, List.replicate_succ]
  simp
theorem numC_end (n : Int) (j : Nat) (h : j < 32) : (numC n 32)[j]? = some (.int .u8 (numB n j)) := by
  unfold numC
  rw [List.getElem?_toArray]
  simp [h]

/-! ### what the book holds -/
abbrev BD := DataW Unit
def kstr (s : ByteArray) : Lit := .string s.data.toList
theorem kstr_inj {s t : ByteArray} (h : kstr s = kstr t) : s = t := by
  unfold kstr at h
  injection h with h
  exact ByteArray.ext (Array.toList_inj.mp h)
def putN (m : BD) (x : ByteArray × Nat) : BD := m.put (kstr x.1) (.lit (.int .i64 ((x.2 + 1 : Nat) : Int)))
def bookD (l : List ByteArray) : BD := l.zipIdx.foldl putN (.map [])
theorem bookD_snoc (l : List ByteArray) (s : ByteArray) : bookD (l ++ [s]) = (bookD l).put (kstr s) (.lit (.int .i64 ((l.length + 1 : Nat) : Int))) := by
  unfold bookD
  rw [List.zipIdx_append, List.foldl_append]
  simp [putN]
theorem kstr_key (s : ByteArray) : Go.WideAt.IsKeyLit (kstr s) := by unfold kstr; trivial
theorem list_snoc {P : List ByteArray → Prop} (h0 : P []) (h1 : ∀ l s, P l → P (l ++ [s])) (l : List ByteArray) : P l := by
  have key : ∀ n (l : List ByteArray), l.length = n → P l := by
    intro n
    induction n with
    | zero => intro l hl; rw [List.eq_nil_of_length_eq_zero hl]; exact h0
    | succ n ih =>
      intro l hl
      have hne : l ≠ [] := fun e => by rw [e] at hl; simp at hl
      rw [← List.dropLast_concat_getLast hne]
      exact h1 _ _ (ih _ (by rw [List.length_dropLast]; omega))
  exact key l.length l rfl
theorem bookD_tidy (l : List ByteArray) : Maps.Tidy (bookD l) := by
  induction l using list_snoc with
  | h0 => exact Maps.tidy_empty
  | h1 l s ih => rw [bookD_snoc]; exact ih.put (kstr_key s) _
theorem bookD_isMap (l : List ByteArray) : Maps.IsMap (bookD l) := (bookD_tidy l).isMap
theorem bookD_has (l : List ByteArray) (s : ByteArray) : Maps.has (bookD l) (kstr s) = decide (s ∈ l) := by
  induction l using list_snoc with
  | h0 => rfl
  | h1 l t ih =>
    rw [bookD_snoc]
    by_cases h : t = s
    · subst h
      rw [Maps.has_put_same (bookD_isMap l) (kstr_key t)]
      simp
    · rw [Maps.has_put_other (fun e => h (kstr_inj e).symm), ih]
      simp only [List.mem_append, List.mem_singleton, decide_eq_decide]
      constructor
      · exact Or.inl
      · rintro (h2 | h2)
        · exact h2
        · exact absurd h2.symm h
theorem bookD_at (l : List ByteArray) (hn : l.Nodup) (s : ByteArray) (h : s ∈ l) (z : BD) : (bookD l).atKey (kstr s) z = .lit (.int .i64 ((l.idxOf s + 1 : Nat) : Int)) := by
  induction l using list_snoc with
  | h0 => cases h
  | h1 l t ih =>
    rw [bookD_snoc]
    have hnl : l.Nodup := (List.nodup_append.mp hn).1
    by_cases ht : t = s
    · subst ht
      have hnt : t ∉ l := fun hm => (List.nodup_append.mp hn).2.2 t hm t (by simp) rfl
      rw [Maps.atKey_put_same (bookD_isMap l) (kstr_key t), List.idxOf_append, if_neg hnt]
      simp
    · have hm : s ∈ l := by
        rcases List.mem_append.mp h with h | h
        · exact h
        · exact absurd (List.mem_singleton.mp h).symm ht
      rw [Maps.atKey_put_other (fun e => ht (kstr_inj e).symm), ih hnl hm, List.idxOf_append, if_pos hm]
theorem bookD_size (l : List ByteArray) (hn : l.Nodup) : Maps.size (bookD l) = l.length := by
  induction l using list_snoc with
  | h0 => rfl
  | h1 l t ih =>
    have hnl : l.Nodup := (List.nodup_append.mp hn).1
    have hnt : t ∉ l := fun hm => (List.nodup_append.mp hn).2.2 t hm t (by simp) rfl
    rw [bookD_snoc, Maps.size_put (bookD_tidy l), bookD_has, decide_eq_false hnt, ih hnl]
    simp
/-- The texts behind a mark. -/
def addT (l : List ByteArray) (s : ByteArray) : List ByteArray := if s ∈ l then l else l ++ [s]
/-- A text's mark, of those seen. -/
def markV (l : List ByteArray) (s : ByteArray) : ByteArray := numV ((l.idxOf s + 1 : Nat) : Int)
theorem addT_nodup {l : List ByteArray} (h : l.Nodup) (s : ByteArray) : (addT l s).Nodup := by
  unfold addT
  split
  · exact h
  · rename_i hs
    rw [List.nodup_append]
    exact ⟨h, by simp, fun a ha b hb => by rw [List.mem_singleton.mp hb]; rintro rfl; exact hs ha⟩
theorem addT_mem (l : List ByteArray) (s : ByteArray) : s ∈ addT l s := by unfold addT; split <;> simp_all
theorem addT_keep (l : List ByteArray) (s t : ByteArray) (h : t ∈ l) : t ∈ addT l s := by unfold addT; split <;> simp_all
theorem addT_length (l : List ByteArray) (s : ByteArray) : (addT l s).length ≤ l.length + 1 ∧ l.length ≤ (addT l s).length := by unfold addT; split <;> simp
theorem markV_size (l : List ByteArray) (s : ByteArray) : (markV l s).size = 32 := numV_size _
/-- Elder marks stay. -/
def Ext (l l' : List ByteArray) : Prop := ∃ r, l' = l ++ r
theorem Ext.refl (l : List ByteArray) : Ext l l := ⟨[], by simp⟩
theorem Ext.trans {a b c : List ByteArray} (h : Ext a b) (k : Ext b c) : Ext a c := by
  obtain ⟨r, rfl⟩ := h
  obtain ⟨t, rfl⟩ := k
  exact ⟨r ++ t, by simp⟩
theorem Ext.add (l : List ByteArray) (s : ByteArray) : Ext l (addT l s) := by
  unfold addT
  split
  · exact Ext.refl l
  · exact ⟨[s], rfl⟩
theorem Ext.mem {l l' : List ByteArray} (h : Ext l l') {s : ByteArray} (hs : s ∈ l) : s ∈ l' := by
  obtain ⟨r, rfl⟩ := h
  exact List.mem_append_left _ hs
theorem Ext.mark {l l' : List ByteArray} (h : Ext l l') {s : ByteArray} (hs : s ∈ l) : markV l' s = markV l s := by
  obtain ⟨r, rfl⟩ := h
  unfold markV
  rw [List.idxOf_append, if_pos hs]
theorem markV_inj {l : List ByteArray} (hl : l.length ≤ 10000000) {s t : ByteArray} (hs : s ∈ l) (ht : t ∈ l) (h : markV l s = markV l t) : s = t := by
  unfold markV at h
  have h1 := List.idxOf_lt_length_of_mem hs
  have h2 := List.idxOf_lt_length_of_mem ht
  have := numV_inj _ _ (by omega) (by omega) h
  have e : l.idxOf s = l.idxOf t := by omega
  have g1 := List.getElem_idxOf h1
  have g2 := List.getElem_idxOf h2
  rw [← g1, ← g2]
  simp only [e]

/-- The block b of w is an ideal book whose map lies in block M, and that has seen the texts l. -/
structure Bk (w : World) (b M : Nat) (l : List ByteArray) : Prop where
  blk : ∃ cs, w.heap[b]? = some (.cells cs 67 (0, 0)) ∧ cs[72]? = some (.bool false) ∧ cs[73]? = some (.map (some M)) ∧ cs[74]? = some (.bool true)
  own : w.ownsMap Try.prog 9 (plainElem (H := Unit) Try.prog 3) M l.length (bookD l)
  nd : l.Nodup
  ne : b ≠ M
theorem Bk.lt {w : World} {b M : Nat} {l : List ByteArray} (h : Bk w b M l) : M < w.heap.size := h.own.lt
theorem Bk.ltb {w : World} {b M : Nat} {l : List ByteArray} (h : Bk w b M l) : b < w.heap.size := by obtain ⟨cs, h1, _⟩ := h.blk; exact blk_lt h1
theorem Bk.grown {w w' : World} {b M : Nat} {l : List ByteArray} {row : Option Nat} (h : Bk w b M l) (hg : w.grownBy w' row) (h1 : some b ≠ row) (h2 : some M ≠ row) : Bk w' b M l := by
  obtain ⟨cs, c1, c2⟩ := h.blk
  exact ⟨⟨cs, blk_grown c1 hg h1, c2⟩, h.own.kept hg h2, h.nd, h.ne⟩
theorem grown_below {w w' : World} (h : Below w.heap.size w w') : w.grownBy w' none := ⟨h.os, h.tape, h.output, h.size, fun k hk _ => h.block k hk⟩
theorem Bk.below {w w' : World} {b M : Nat} {l : List ByteArray} (h : Bk w b M l) (hb : Below w.heap.size w w') : Bk w' b M l := h.grown (grown_below hb) (by simp) (by simp)
theorem gb_refl (w : World) (row : Option Nat) : w.grownBy w row := ⟨rfl, rfl, rfl, Nat.le_refl _, fun _ _ _ => rfl⟩
theorem gb_trans {a b c : World} {row : Option Nat} (h : a.grownBy b row) (k : b.grownBy c row) : a.grownBy c row :=
  ⟨k.os.trans h.os, k.tape.trans h.tape, k.output.trans h.output, Nat.le_trans h.size k.size, fun i hi hn => (k.block i (Nat.lt_of_lt_of_le hi h.size) hn).trans (h.block i hi hn)⟩
theorem gb_of {w w' : World} (h : Below w.heap.size w w') (row : Option Nat) : w.grownBy w' row := ⟨h.os, h.tape, h.output, h.size, fun k hk _ => h.block k hk⟩
/-- One frame behind another, the second one's rows being new. -/
theorem gb_below {a b c : World} {row : Option Nat} (h : a.grownBy b row) (k : Below b.heap.size b c) : a.grownBy c row := gb_trans h (gb_of k row)
theorem below_gb {a b : World} {M base : Nat} (h : a.grownBy b (some M)) (hM : base ≤ M) (hb : base ≤ a.heap.size) : Below base a b := ⟨h.os, h.tape, h.output, h.size, fun k hk => h.block k (by omega) (fun e => by injection e with e; omega)⟩
/-- A step that writes a row of the call's own, or a block of its own. -/
theorem gb_own {a b c : World} {row row2 : Option Nat} (h : a.grownBy b row) (k : b.grownBy c row2) (hr : ∀ g, row2 = some g → a.heap.size ≤ g) : a.grownBy c row :=
  ⟨k.os.trans h.os, k.tape.trans h.tape, k.output.trans h.output, Nat.le_trans h.size k.size, fun i hi hn => (k.block i (Nat.lt_of_lt_of_le hi h.size) (fun e => by have := hr i e.symm; omega)).trans (h.block i hi hn)⟩
theorem gb_set {a b : World} {row : Option Nat} (h : a.grownBy b row) {p : Addr} (hp : a.heap.size ≤ p.block) (u : Value) : a.grownBy (b.setCell p u) row :=
  ⟨h.os, h.tape, h.output, by simp only [World.setCell, Array.size_modify]; exact h.size, fun i hi hn => (Below.heap_setCell b p u i (by omega)).trans (h.block i hi hn)⟩
theorem Bk.set {w : World} {b M : Nat} {l : List ByteArray} (h : Bk w b M l) {p : Addr} (h1 : b ≠ p.block) (h2 : M ≠ p.block) (u : Value) : Bk (w.setCell p u) b M l := by
  refine h.grown (row := some p.block) ⟨rfl, rfl, rfl, by simp [World.setCell], fun i hi hn => Below.heap_setCell w p u i (fun e => hn (by rw [e]))⟩ (fun e => h1 (by injection e)) (fun e => h2 (by injection e))
/-- Rows of elements of two types lie apart. -/
theorem R_apart {α β : Type} {d : Kd α} {d' : Kd β} {e e' base base' : Nat} {w : World} {ok ok' : Nat → Prop} {v v' : Value} {xs : List α} {ys : List β} (h : d.R e w base ok v xs) (h' : d'.R e' w base' ok' v' ys) (hne : e ≠ e') : ∀ k, v.ownBlock = some k → some k ≠ v'.ownBlock := by
  intro k hk hk'
  obtain ⟨i1, o1⟩ := Kd.R_own h
  obtain ⟨i2, o2⟩ := Kd.R_own h'
  obtain ⟨c1, g1⟩ := own_typed o1 k hk
  obtain ⟨c2, g2⟩ := own_typed o2 k hk'.symm
  rw [g1] at g2
  injection g2 with g2
  injection g2 with _ g2
  exact hne g2
theorem blk_gb {a b : World} {M g : Nat} {o : Obj} (h : a.grownBy b (some M)) (hg : a.heap[g]? = some o) (hne : g ≠ M) : b.heap[g]? = some o := blk_grown hg h (fun e => hne (by injection e))
end Go.Proofs.Ytjgelmfkoefclaa.PAll
