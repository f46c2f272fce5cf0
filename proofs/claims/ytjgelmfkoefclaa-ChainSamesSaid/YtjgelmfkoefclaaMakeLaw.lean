/- What gathers steps, beside a book, a table and a window: frames. -/
import Derived.Test.YtjgelmfkoefclaaGivCopy
import Derived.Test.YtjgelmfkoefclaaGivTail
namespace Go.Proofs.Ytjgelmfkoefclaa.PAll
open Go.RowKit Go.Proofs.YtjgelmfkoefclaaW.PrintWords Go.Proofs.YtjgelmfkoefclaaW.PrintLast Go.Proofs.YtjgelmfkoefclaaW.PrintMore
set_option linter.unusedVariables false

section
variable {w w' w1 : World} {base m M b g : Nat} {vs vt : Value} {st : List S54} {tx : ByteArray} {l : List ByteArray}
theorem Mk.gb (h : Mk w base m vs vt st tx) (hg : w.grownBy w' (some g)) (h1 : m ≠ g) (h2 : some g ≠ vs.ownBlock) (h3 : some g ≠ vt.ownBlock) : Mk w' base m vs vt st tx :=
  ⟨h.le, blk_gb hg h.b h1, Kd.R_grown2 h.r rfl hg (fun k hk => by injection hk with hk; subst hk; exact h2), h.t.grown hg (fun k hk e => by injection e with e; subst e; exact h3 hk.symm)⟩
theorem Mk.gbM (h : Mk w base m vs vt st tx) (hg : w.grownBy w' (some M)) (hM : M < base) : Mk w' base m vs vt st tx :=
  h.gb hg (by have := h.le; omega) (fun e => by have := Kd.R_base h.r M e.symm; omega) (fun e => by have := (h.t.lt M e.symm).1; omega)
theorem Mk.gbR (h : Mk w base m vs vt st tx) (hg : w.grownBy w' (some g)) {cs : Array Value} (hR : w.heap[g]? = some (.cells cs 121 (0, 0))) : Mk w' base m vs vt st tx :=
  h.gb hg (fun e => by have h2 := h.b; rw [e, hR] at h2; injection h2 with h2; injection h2 with _ h2; exact absurd h2 (by decide)) (Kd.R_ne h.r hR (by decide)) (fun e => h.t.ne hR (by decide) g e.symm rfl)
theorem Bk.fm (h : Bk w b M l) (hf : Fm base w w') (hb : b < base) (hM : M < base) : Bk w' b M l := by
  obtain ⟨cs, c1, c2⟩ := h.blk
  obtain ⟨es, ck, h1, h2⟩ := h.own
  exact ⟨⟨cs, (hf.low b hb h.ltb).trans c1, c2⟩, ⟨es, ck, (hf.low M hM h.lt).trans h1, h2⟩, h.nd, h.ne⟩
theorem gb_fm (h : w1.grownBy w (some M)) (hf : Fm w1.heap.size w w') : w1.grownBy w' (some M) :=
  ⟨hf.os.trans h.os, hf.tape.trans h.tape, hf.output.trans h.output, Nat.le_trans h.size hf.size, fun k hk hn => (hf.low k hk (Nat.lt_of_lt_of_le hk h.size)).trans (h.block k hk hn)⟩
theorem fm_gbM (h : w.grownBy w' (some M)) (hM : M < base) (hr : ∀ (cs : Array Value), w.heap[M]? ≠ some (Obj.cells cs 121 (0, 0))) : ∀ (k : Nat) (cs : Array Value), w.heap[k]? = some (Obj.cells cs 121 (0, 0)) → w'.heap[k]? = some (Obj.cells cs 121 (0, 0)) :=
  fun k cs hk => blk_gb h hk (fun e => hr cs (by rw [← e]; exact hk))
end
/-- The table's size, by its block alone. -/
theorem tsize_blk {T : Nat} {w0 : World} {bl n : Int} {ws : List Int} {ss : List ByteArray} {nb : Nat} {w1 w : World} (hT : Tb w0 w1 T bl n ws ss nb) {M : Nat} (hM : M < w0.heap.size) (hg : w1.grownBy w (some M)) : Calls Try.prog 72 #[.pointer (some ⟨T, 0, none⟩)] w fun e w' => e = .returned (.int .i64 n) ∧ Drawn0 w w' :=
  tsize_calls w0 T bl n ws ss nb w (hT.mark hg hM)
theorem tblock_blk {T : Nat} {w0 : World} {bl n : Int} {ws : List Int} {ss : List ByteArray} {nb : Nat} {w1 w : World} (hT : Tb w0 w1 T bl n ws ss nb) {M : Nat} (hM : M < w0.heap.size) (hg : w1.grownBy w (some M)) : Calls Try.prog 50 #[.pointer (some ⟨T, 0, none⟩)] w fun e w' => e = .returned (.int .i64 bl) ∧ Drawn0 w w' :=
  tblock_calls w0 T bl n ws ss nb w (hT.mark hg hM)
/-- A maker made at wa, its book and its window. -/
structure Mq (wa w : World) (b M R : Nat) (s : ByteArray) (bl a : Nat) (vs vt : Value) (st : List S54) (tx : ByteArray) (l : List ByteArray) : Prop where
  mm : Mk w wa.heap.size wa.heap.size vs vt st tx
  gb : wa.grownBy w (some M)
  bk : Bk w b M l
  rl : Rl w R s bl a
theorem Rl.below {w w' : World} {R : Nat} {s : ByteArray} {bl a : Nat} (h : Rl w R s bl a) (hb : Below w.heap.size w w') : Rl w' R s bl a := by
  obtain ⟨e1, c1, c2, e2⟩ := h
  exact ⟨e1, c1, c2, blk_below e2 hb⟩
theorem Rl.fm {w w' : World} {base R : Nat} {s : ByteArray} {bl a : Nat} (h : Rl w R s bl a) (hb : Fm base w w') : Rl w' R s bl a := by
  obtain ⟨e1, c1, c2, e2⟩ := h
  exact ⟨e1, c1, c2, hb.win _ _ e2⟩
section
variable {wa w w' : World} {b M R : Nat} {s : ByteArray} {bl a : Nat} {vs vt vs' vt' : Value} {st st' : List S54} {tx tx' : ByteArray} {l : List ByteArray}
theorem Mq.below (h : Mq wa w b M R s bl a vs vt st tx l) (hb : Below w.heap.size w w') : Mq wa w' b M R s bl a vs vt st tx l :=
  ⟨h.mm.below hb, gb_below h.gb hb, h.bk.below hb, h.rl.below hb⟩
theorem Mq.fm (h : Mq wa w b M R s bl a vs vt st tx l) (hf : Fm wa.heap.size w w') (hm : Mk w' wa.heap.size wa.heap.size vs' vt' st' tx') (hb : b < wa.heap.size) (hM : M < wa.heap.size) : Mq wa w' b M R s bl a vs' vt' st' tx' l :=
  ⟨hm, gb_fm h.gb hf, h.bk.fm hf hb hM, h.rl.fm hf⟩
theorem Mq.gbR {a' : Nat} (h : Mq wa w b M R s bl a vs vt st tx l) (hg : w.grownBy w' (some R)) (hr : Rl w' R s bl a') (hR : wa.heap.size ≤ R) (hb : b < wa.heap.size) (hM : M < wa.heap.size) : Mq wa w' b M R s bl a' vs vt st tx l := by
  obtain ⟨_, c1, c2, e2⟩ := h.rl
  exact ⟨h.mm.gbR hg e2, gb_own h.gb hg (fun g hg => by injection hg with hg; omega), h.bk.grown hg (fun e => by injection e with e; omega) (fun e => by injection e with e; omega), hr⟩
end
/-- How a text's end is told: by steps of its own, or by the last block. -/
def EndR (st : List S54) (tx s : ByteArray) (n bl : Nat) (ws : List Int) (ss : List ByteArray) (l' : List ByteArray) (st' : List S54) : Prop :=
  st' = st ++ flushN (tx ++ s).size (tx ++ s) ∨ ∃ k : Nat, k = n % bl ∧ 0 < k ∧ k ≤ s.size ∧ rdOf ByteArray.empty ss ((ws.length - 1 : Nat) : Int) = markV l' (s.extract (s.size - k) s.size) ∧ s.extract (s.size - k) s.size ∈ l' ∧ st' = copyD (st ++ flushN (tx ++ s.extract 0 (s.size - k)).size (tx ++ s.extract 0 (s.size - k))) ((n : Int) - (k : Int)) (k : Int)
end Go.Proofs.Ytjgelmfkoefclaa.PAll
