/- What steps make of a basis, and what is kept while steps are gathered. -/
import Derived.Test.YtjgelmfkoefclaaBase
import Derived.Test.YtjgelmfkoefclaaBasd
import Derived.Test.YtjgelmfkoefclaaMakeLaw
namespace Go.Proofs.Ytjgelmfkoefclaa.Pure
open Go.RowKit Go.Proofs.YtjgelmfkoefclaaW.PrintWords Go.Proofs.YtjgelmfkoefclaaW.PrintLast Go.Proofs.YtjgelmfkoefclaaW.PrintMore Go.Proofs.Ytjgelmfkoefclaa.PAll
set_option linter.unusedVariables false
set_option linter.unusedSimpArgs false

def L8 (s : ByteArray) : List UInt8 := s.data.toList
theorem L8_len (s : ByteArray) : (L8 s).length = s.size := by unfold L8; rw [Array.length_toList]; rfl
theorem L8_app (s t : ByteArray) : L8 (s ++ t) = L8 s ++ L8 t := by unfold L8; rw [ByteArray.data_append, Array.toList_append]
theorem L8_ext (s : ByteArray) (a b : Nat) : L8 (s.extract a b) = ((L8 s).drop a).take (b - a) := by
  unfold L8
  rw [ByteArray.data_extract, Array.toList_extract, List.extract_eq_take_drop]
theorem L8_nil {s : ByteArray} (h : s.size = 0) : L8 s = [] := List.eq_nil_of_length_eq_zero (by rw [L8_len]; exact h)
theorem L8_inj {s t : ByteArray} (h : L8 s = L8 t) : s = t := ByteArray.ext (Array.toList_inj.mp h)
theorem L8_get (s : ByteArray) (i : Nat) (h : i < s.size) : (L8 s)[i]'(by rw [L8_len]; exact h) = s[i] := by unfold L8; rw [Array.getElem_toList]; rfl
theorem L8_e : L8 ⟨#[]⟩ = [] := rfl
theorem L8_b1 (c : UInt8) : L8 (b1 c) = [c] := rfl

/-- The bytes that a step makes. -/
def pieceL (B : List UInt8) (x : S54) : List UInt8 := ((B.drop x.f0.toNat).take x.f1.toNat) ++ L8 x.f2
def runL (B : List UInt8) (l : List S54) : List UInt8 := l.flatMap (pieceL B)
theorem runL_app (B : List UInt8) (a b : List S54) : runL B (a ++ b) = runL B a ++ runL B b := by unfold runL; exact List.flatMap_append
theorem runL_one (B : List UInt8) (x : S54) : runL B [x] = pieceL B x := by simp [runL]
theorem runL_cons (B : List UInt8) (x : S54) (l : List S54) : runL B (x :: l) = pieceL B x ++ runL B l := by simp [runL]
/-- A step that may be, for a basis of n bytes. -/
def okB (n : Nat) (x : S54) : Prop := stepOk x ∧ (x.f2.size = 0 → x.f0 + x.f1 ≤ n)
theorem piece_len (B : List UInt8) (x : S54) (h : okB B.length x) : (pieceL B x).length = lenN x := by
  obtain ⟨h1, h2⟩ := h
  unfold pieceL lenN
  rw [List.length_append, List.length_take, List.length_drop, L8_len]
  unfold stepOk at h1
  by_cases h0 : x.f2.size = 0
  · rw [if_pos h0] at h1
    have := h2 h0
    omega
  · rw [if_neg h0] at h1
    omega
theorem run_len (B : List UInt8) (l : List S54) (h : ∀ x ∈ l, okB B.length x) : (runL B l).length = sumN l := by
  induction l with
  | nil => rfl
  | cons x l ih => rw [runL_cons, List.length_append, piece_len B x (h x (List.mem_cons_self ..)), ih (fun y hy => h y (List.mem_cons_of_mem _ hy)), sumN_cons]
theorem flush_run (B : List UInt8) (n : Nat) (k : Nat) : ∀ (s : ByteArray), s.size ≤ k → runL B (flushN k s) = L8 s ∧ ∀ x ∈ flushN k s, okB n x := by
  induction k with
  | zero => intro s h; exact ⟨(L8_nil (by omega)).symm, fun x hx => by cases hx⟩
  | succ k ih =>
    intro s h
    rw [flushN]
    by_cases h0 : s.size = 0
    · rw [if_pos h0]; exact ⟨(L8_nil h0).symm, fun x hx => by cases hx⟩
    · rw [if_neg h0]
      obtain ⟨i1, i2⟩ := ih (s.extract (min s.size 4096) s.size) (by rw [ByteArray.size_extract]; omega)
      refine ⟨?_, fun x hx => ?_⟩
      · rw [runL_cons, i1]
        unfold pieceL
        simp only [Int.toNat_zero, List.take_zero, List.nil_append, List.drop_zero]
        rw [L8_ext, L8_ext, List.drop_zero, Nat.sub_zero]
        rw [List.take_of_length_le (show ((L8 s).drop (min s.size 4096)).length ≤ s.size - min s.size 4096 by rw [List.length_drop, L8_len]; exact Nat.le_refl _)]
        exact List.take_append_drop _ _
      · rcases List.mem_cons.mp hx with rfl | hx
        · have hs : (s.extract 0 (min s.size 4096)).size = min s.size 4096 := by rw [ByteArray.size_extract]; omega
          have hne : ¬ (s.extract 0 (min s.size 4096)).size = 0 := by omega
          refine ⟨?_, fun h2 => absurd h2 hne⟩
          unfold stepOk
          rw [if_neg hne]
          exact ⟨rfl, rfl, by show (s.extract 0 (min s.size 4096)).size ≤ 4096; omega⟩
        · exact i2 x hx
theorem rdT_last (o : List S54) (y : S54) : rd_T54 (o ++ [y]) (((o ++ [y]).length - 1 : Nat) : Int) = y := by
  unfold rd_T54
  simp
theorem setT_last (o : List S54) (y z : S54) : (o ++ [y]).set ((o ++ [y]).length - 1) z = o ++ [z] := by simp
theorem lastT (o : List S54) : o = [] ∨ ∃ o' y, o = o' ++ [y] := by
  rcases List.eq_nil_or_concat o with h | ⟨a, b, h⟩
  · exact .inl h
  · exact .inr ⟨a, b, by simpa using h⟩
theorem copyD_run (B : List UInt8) (hB : B.length ≤ 524288) (o : List S54) (p q : Nat) (hq : 0 < q) (hpq : p + q ≤ B.length) (ho : ∀ x ∈ o, okB B.length x) :
    runL B (copyD o p q) = runL B o ++ (B.drop p).take q ∧ ∀ x ∈ copyD o p q, okB B.length x := by
  have hnew : okB B.length ⟨p, q, ⟨#[]⟩⟩ ∧ pieceL B ⟨p, q, ⟨#[]⟩⟩ = (B.drop p).take q := by
    refine ⟨⟨?_, fun _ => ?_⟩, ?_⟩
    · have e0 : (⟨(p : Int), (q : Int), ⟨#[]⟩⟩ : S54).f2.size = 0 := rfl
      unfold stepOk
      rw [if_pos e0]
      show 0 < (q : Int) ∧ 0 ≤ (p : Int) ∧ (q : Int) ≤ 524288 ∧ (p : Int) ≤ 524288 - (q : Int)
      omega
    · show (p : Int) + (q : Int) ≤ _; omega
    · unfold pieceL
      show ((B.drop (p : Int).toNat).take (q : Int).toNat) ++ [] = _
      rw [List.append_nil, Int.toNat_natCast, Int.toNat_natCast]
  have happ : ∀ o : List S54, (∀ x ∈ o, okB B.length x) → runL B (o ++ [⟨p, q, ⟨#[]⟩⟩]) = runL B o ++ (B.drop p).take q ∧ ∀ x ∈ o ++ [⟨p, q, ⟨#[]⟩⟩], okB B.length x := fun o ho => by
    refine ⟨by rw [runL_app, runL_one, hnew.2], fun x hx => ?_⟩
    rcases List.mem_append.mp hx with hx | hx
    · exact ho x hx
    · rw [List.mem_singleton.mp hx]; exact hnew.1
  rcases lastT o with rfl | ⟨o', y, rfl⟩
  · unfold copyD
    rw [if_neg (by simp)]
    exact happ [] ho
  · unfold copyD
    rw [rdT_last, setT_last]
    by_cases hc : (o' ++ [y]).length ≠ 0 ∧ 0 < y.f1 ∧ wrap64 (y.f0 + y.f1) = p
    · rw [if_pos hc]
      obtain ⟨_, c1, c2⟩ := hc
      obtain ⟨y1, y2⟩ := ho y (by simp)
      unfold stepOk at y1
      by_cases h0 : y.f2.size = 0
      · rw [if_pos h0] at y1
        have y3 := y2 h0
        obtain ⟨a, ha⟩ := Int.eq_ofNat_of_zero_le y1.2.1
        obtain ⟨n, hn⟩ := Int.eq_ofNat_of_zero_le (Int.le_of_lt c1)
        rw [ha, hn] at y1 y3 c2
        rw [hn] at c1
        rw [ha, hn]
        have hp : p = a + n := by unfold wrap64 at c2; omega
        have hw : wrap64 ((n : Int) + (q : Int)) = ((n + q : Nat) : Int) := by unfold wrap64; omega
        rw [hw]
        clear hw c2
        refine ⟨?_, fun x hx => ?_⟩
        · rw [runL_app, runL_app, runL_one, runL_one, List.append_assoc]
          congr 1
          unfold pieceL
          rw [ha, hn, L8_nil h0]
          simp only [Int.toNat_natCast, List.append_nil]
          rw [List.take_add, List.drop_drop, hp]
        · rcases List.mem_append.mp hx with hx | hx
          · exact ho x (List.mem_append_left _ hx)
          · rw [List.mem_singleton.mp hx]
            refine ⟨?_, fun _ => ?_⟩
            · unfold stepOk
              rw [if_pos h0]
              show 0 < ((n + q : Nat) : Int) ∧ 0 ≤ (a : Int) ∧ ((n + q : Nat) : Int) ≤ 524288 ∧ (a : Int) ≤ 524288 - ((n + q : Nat) : Int)
              omega
            · show (a : Int) + ((n + q : Nat) : Int) ≤ _; omega
      · rw [if_neg h0] at y1; omega
    · rw [if_neg hc]
      exact happ _ ho
/-- The steps, and the bytes that are in none yet, make the first a bytes of S. -/
structure Jm (B S : List UInt8) (st : List S54) (tx : ByteArray) (a : Nat) : Prop where
  ok : ∀ x ∈ st, okB B.length x
  run : runL B st ++ L8 tx = S.take a
  le : a ≤ S.length
theorem Jm.bound {B S : List UInt8} {st : List S54} {tx : ByteArray} {a : Nat} (h : Jm B S st tx a) : st.length + tx.size ≤ a := by
  have h1 := congrArg List.length h.run
  rw [List.length_append, List.length_take, L8_len, run_len B st h.ok, Nat.min_eq_left h.le] at h1
  have := sumN_ge st (fun x hx => (h.ok x hx).1)
  omega
theorem Jm.nil (B S : List UInt8) : Jm B S [] ⟨#[]⟩ 0 := ⟨fun x hx => (by cases hx), (by rw [List.take_zero]; rfl), Nat.zero_le _⟩
theorem Jm.flush {B S : List UInt8} {st : List S54} {tx : ByteArray} {a : Nat} (h : Jm B S st tx a) : Jm B S (st ++ flushN tx.size tx) ⟨#[]⟩ a := by
  obtain ⟨f1, f2⟩ := flush_run B B.length tx.size tx (Nat.le_refl _)
  refine ⟨fun x hx => ?_, ?_, h.le⟩
  · rcases List.mem_append.mp hx with hx | hx
    · exact h.ok x hx
    · exact f2 x hx
  · rw [runL_app, f1, L8_e, List.append_nil]; exact h.run
theorem Jm.copy {B S : List UInt8} {st : List S54} {tx : ByteArray} {a : Nat} (h : Jm B S st tx a) (hB : B.length ≤ 524288) (p q : Nat) (hq : 0 < q) (hpq : p + q ≤ B.length) (haq : a + q ≤ S.length) (he : (B.drop p).take q = (S.drop a).take q) :
    Jm B S (copyD (st ++ flushN tx.size tx) p q) ⟨#[]⟩ (a + q) := by
  have hf := h.flush
  obtain ⟨c1, c2⟩ := copyD_run B hB _ p q hq hpq hf.ok
  refine ⟨c2, ?_, haq⟩
  have h3 := hf.run
  rw [L8_e, List.append_nil] at h3
  rw [c1, L8_e, List.append_nil, h3, he, ← List.take_add]
theorem Jm.text {B S : List UInt8} {st : List S54} {tx : ByteArray} {a : Nat} (h : Jm B S st tx a) (t : ByteArray) (n : Nat) (ht : L8 t = (S.drop a).take n) (hn : a + n ≤ S.length) : Jm B S st (tx ++ t) (a + n) :=
  ⟨h.ok, by rw [L8_app, ← List.append_assoc, h.run, ht, ← List.take_add], hn⟩
theorem Jm.byte {B : List UInt8} {s : ByteArray} {st : List S54} {tx : ByteArray} {a : Nat} (h : Jm B (L8 s) st tx a) (ha : a < s.size) : Jm B (L8 s) st (tx ++ b1 s[a]) (a + 1) := by
  refine h.text _ 1 ?_ (by rw [L8_len]; omega)
  have hl : a < (L8 s).length := by rw [L8_len]; exact ha
  rw [L8_b1, List.drop_eq_getElem_cons hl, L8_get s a ha]
  rfl
/-- A mark of a block tells the block. -/
theorem match_block {l0 l' : List ByteArray} {bs p : ByteArray} {bl i : Nat} (hx : Ext l0 l') (hm : ∀ j, j < nB bs.size bl → blockV bs bl j ∈ l0) (hi : i < nB bs.size bl) (he : rdOf ByteArray.empty ((blocksV bs bl).map (markV l0)) (i : Int) = markV l' p) (hp : p ∈ l') (hl : l'.length ≤ 10000000) : p = blockV bs bl i := by
  have h1 : rdOf ByteArray.empty ((blocksV bs bl).map (markV l0)) (i : Int) = markV l0 (blockV bs bl i) := by
    unfold rdOf blocksV
    simp [hi]
  have hb := hm i hi
  rw [h1, ← hx.mark hb] at he
  exact (markV_inj hl (hx.mem hb) hp he).symm
theorem block_full {bs : ByteArray} {bl i : Nat} (hi : i < bs.size / bl) (hb : 0 < bl) : i < nB bs.size bl ∧ i * bl + bl ≤ bs.size ∧ L8 (blockV bs bl i) = ((L8 bs).drop (i * bl)).take bl := by
  have h1 : (i + 1) * bl ≤ bs.size / bl * bl := Nat.mul_le_mul_right _ hi
  have h2 := Nat.div_mul_le_self bs.size bl
  rw [Nat.succ_mul] at h1
  have h3 : i * bl + bl ≤ bs.size := by omega
  refine ⟨?_, h3, ?_⟩
  · unfold nB
    have : bs.size / bl ≤ (bs.size + bl - 1) / bl := Nat.div_le_div_right (by omega)
    omega
  · unfold blockV
    rw [Nat.succ_mul, Nat.min_eq_left h3, L8_ext, Nat.add_sub_cancel_left]
theorem block_last {bs : ByteArray} {bl k : Nat} (hk : k = bs.size % bl) (h0 : 0 < k) (hb : 0 < bl) : nB bs.size bl - 1 < nB bs.size bl ∧ k ≤ bs.size ∧ L8 (blockV bs bl (nB bs.size bl - 1)) = ((L8 bs).drop (bs.size - k)).take k := by
  have h1 := Nat.div_add_mod bs.size bl
  have hkl : k < bl := by rw [hk]; exact Nat.mod_lt _ hb
  have h2 : nB bs.size bl = bs.size / bl + 1 := by
    unfold nB
    have e : bs.size + bl - 1 = (k - 1) + bl * (bs.size / bl + 1) := by rw [Nat.mul_succ]; omega
    rw [e, Nat.add_mul_div_left _ _ hb, Nat.div_eq_of_lt (by omega), Nat.zero_add]
  have h3 : bs.size / bl * bl = bs.size - k := by have e := Nat.mul_comm (bs.size / bl) bl; omega
  have h4 : k ≤ bs.size := by rw [hk]; exact Nat.mod_le _ _
  refine ⟨by rw [h2]; exact Nat.sub_lt (Nat.succ_pos _) (by decide), h4, ?_⟩
  rw [h2, Nat.add_sub_cancel]
  unfold blockV
  rw [Nat.succ_mul, h3, Nat.min_eq_right (by omega), L8_ext, show bs.size - (bs.size - k) = k by omega]
theorem Jm.fin {bs s : ByteArray} {st st' : List S54} {tx : ByteArray} {a bl : Nat} {ws : List Int} {l0 l' : List ByteArray} (h : Jm (L8 bs) (L8 s) st tx a) (hB : bs.size ≤ 524288) (hb : 0 < bl) (hws : ws.length = nB bs.size bl) (hx : Ext l0 l') (hm : ∀ j, j < nB bs.size bl → blockV bs bl j ∈ l0) (hl : l'.length ≤ 10000000)
    (he : EndR st tx (s.extract a s.size) bs.size bl ws ((blocksV bs bl).map (markV l0)) l' st') : (∀ x ∈ st', okB bs.size x) ∧ runL (L8 bs) st' = L8 s := by
  have ha : a ≤ s.size := by rw [← L8_len]; exact h.le
  have hz : (s.extract a s.size).size = s.size - a := by rw [ByteArray.size_extract]; omega
  have done : ∀ {st2 : List S54}, Jm (L8 bs) (L8 s) st2 ⟨#[]⟩ s.size → (∀ x ∈ st2, okB bs.size x) ∧ runL (L8 bs) st2 = L8 s := fun {st2} j => by
    have j1 := j.ok
    have j2 := j.run
    rw [L8_len] at j1
    rw [L8_e, List.append_nil, List.take_of_length_le (by rw [L8_len]; exact Nat.le_refl _)] at j2
    exact ⟨j1, j2⟩
  rcases he with rfl | ⟨k, hk, hk0, hks, e1, e2, rfl⟩
  · refine done ?_
    have := (h.text (s.extract a s.size) (s.size - a) (L8_ext s a s.size) (by rw [L8_len]; omega)).flush
    rwa [show a + (s.size - a) = s.size by omega] at this
  · obtain ⟨b1, b2, b3⟩ := block_last hk hk0 hb
    rw [hws] at e1
    have hpe := match_block hx hm b1 e1 e2 hl
    have hpl := congrArg L8 hpe
    rw [b3] at hpl
    rw [hz] at hpl hks
    refine done ?_
    have j1 := h.text ((s.extract a s.size).extract 0 (s.size - a - k)) (s.size - a - k) (by
      rw [L8_ext, L8_ext, List.drop_zero, Nat.sub_zero, List.take_take, Nat.min_eq_left (by omega)]) (by rw [L8_len]; omega)
    have hsub : (bs.size : Int) - (k : Int) = ((bs.size - k : Nat) : Int) := by omega
    rw [hz, hsub]
    have j2 := j1.copy (by rw [L8_len]; exact hB) (bs.size - k) k hk0 (by rw [L8_len]; omega) (by rw [L8_len]; omega) (by
      rw [← hpl, L8_ext, L8_ext]
      rw [List.drop_take, List.drop_drop, List.take_take]
      congr 1
      omega)
    rwa [show a + (s.size - a - k) + k = s.size by omega] at j2
end Go.Proofs.Ytjgelmfkoefclaa.Pure
