/- Deltas in cells (no rows of them): the part of GivGroup that ChainSames wants. -/
import Derived.Test.YtjgelmfkoefclaaGivOf
import Derived.Test.YtjgelmfkoefclaaLayLaw
namespace Go.Proofs.Ytjgelmfkoefclaa.PAll
open Go.RowKit Go.Proofs.YtjgelmfkoefclaaW.PrintWords Go.Proofs.YtjgelmfkoefclaaW.PrintLast Go.Proofs.YtjgelmfkoefclaaW.PrintMore Go.Proofs.Ytjgelmfkoefclaa.Pure
set_option linter.unusedVariables false

def Dt (w : World) (q o0 o1 o2 o3 : Nat) (a b : ByteArray) (n : Int) (A : Option Addr) (c : Nat) (l : List S54) : Prop :=
  (w.cell? ⟨q, o0, none⟩ = some (.string a) ∧ w.cell? ⟨q, o1, none⟩ = some (.string b) ∧ w.cell? ⟨q, o2, none⟩ = some (.int .i64 n) ∧ w.cell? ⟨q, o3, none⟩ = some (.slice A l.length c)) ∧ l.length ≤ c ∧ Kd.C k54 w A l.length l
theorem cell_b {w w' : World} {p : Addr} {v : Value} (h : w.cell? p = some v) (hb : Below w.heap.size w w') : w'.cell? p = some v := (hb.cell (p := p) (World.block_lt_of_cell? w p h)).trans h
theorem Dt.below {w w' : World} {q o0 o1 o2 o3 : Nat} {a b : ByteArray} {n : Int} {A : Option Addr} {c : Nat} {l : List S54} (h : Dt w q o0 o1 o2 o3 a b n A c l) (hb : Below w.heap.size w w') : Dt w' q o0 o1 o2 o3 a b n A c l := by
  obtain ⟨⟨h0, h1, h2, h3⟩, h4, h5⟩ := h
  exact ⟨⟨cell_b h0 hb, cell_b h1 hb, cell_b h2 hb, cell_b h3 hb⟩, h4, Kd.C_below h5 hb⟩
theorem Dt.blk {w : World} {g : Nat} {a b : ByteArray} {n : Int} {A : Option Addr} {c : Nat} {l : List S54} (h : w.heap[g]? = some (.cells #[.string a, .string b, .int .i64 n, .slice A l.length c] 24 (0, 0))) (hl : l.length ≤ c) (hC : Kd.C k54 w A l.length l) : Dt w g 0 1 2 3 a b n A c l := ⟨blk4 h, hl, hC⟩
structure Ob (w wr : World) (v : Value) (st : List S54) : Prop where
  gb : w.grownBy wr (some w.heap.size)
  r : Kd.R k54 54 wr (w.heap.size + 1) (fun _ => True) v st
theorem Ob.set {w wr : World} {v : Value} {st : List S54} (h : Ob w wr v st) (j : Nat) (u : Value) : Ob w (wr.setCell ⟨w.heap.size, j, none⟩ u) v st :=
  ⟨gb_set h.gb (Nat.le_refl _) u,
    Kd.R_mono (Kd.R_far (p := ⟨w.heap.size, j, none⟩) (Kd.R_mono (Kd.R_bound h.r) (ok' := fun k => w.heap.size + 1 ≤ k) (fun k hk => hk.2.1)) (fun k hk => by show k ≠ w.heap.size; omega) u) (fun _ _ => trivial)⟩
theorem Ob.below {w wr : World} {v : Value} {st : List S54} (h : Ob w wr v st) : Below w.heap.size w wr := below_gb h.gb (Nat.le_refl _) (Nat.le_refl _)
theorem Ob.fin {w wr : World} {A : Option Addr} {c : Nat} {st : List S54} (h : Ob w wr (.slice A st.length c) st) : st.length ≤ c ∧ Kd.C k54 wr A st.length st := by
  obtain ⟨_, h1, h2⟩ := Kd.R_reads' h.r
  exact ⟨h1, h2⟩
theorem Ob.four {w wr : World} {A : Option Addr} {c : Nat} {st : List S54} (h : Ob w wr (.slice A st.length c) st) (hz : wr.heap[w.heap.size]? = some (.cells #[.string ⟨#[]⟩, .string ⟨#[]⟩, .int .i64 0, .slice none 0 0] 24 (0, 0))) (a b : ByteArray) (n : Int) :
    Dt ((((wr.setCell ⟨w.heap.size, 0, none⟩ (.string a)).setCell ⟨w.heap.size, 1, none⟩ (.string b)).setCell ⟨w.heap.size, 2, none⟩ (.int .i64 n)).setCell ⟨w.heap.size, 3, none⟩ (.slice A st.length c)) w.heap.size 0 1 2 3 a b n A c st ∧
    Below w.heap.size w ((((wr.setCell ⟨w.heap.size, 0, none⟩ (.string a)).setCell ⟨w.heap.size, 1, none⟩ (.string b)).setCell ⟨w.heap.size, 2, none⟩ (.int .i64 n)).setCell ⟨w.heap.size, 3, none⟩ (.slice A st.length c)) := by
  have hof := (((h.set 0 (.string a)).set 1 (.string b)).set 2 (.int .i64 n)).set 3 (.slice A st.length c)
  refine ⟨Dt.blk ?_ hof.fin.1 hof.fin.2, hof.below⟩
  refine blk_put (cs := #[.string a, .string b, .int .i64 n, .slice none 0 0]) ?_ 3 _ rfl
  refine blk_put (cs := #[.string a, .string b, .int .i64 0, .slice none 0 0]) ?_ 2 _ rfl
  refine blk_put (cs := #[.string a, .string ⟨#[]⟩, .int .i64 0, .slice none 0 0]) ?_ 1 _ rfl
  exact blk_put (cs := #[.string ⟨#[]⟩, .string ⟨#[]⟩, .int .i64 0, .slice none 0 0]) hz 0 _ rfl
theorem cell_nomap {w : World} {p : Addr} {v : Value} {es : Array _} {ck : Nat} (h : w.cell? p = some v) (hm : w.heap[p.block]? = some (.map es ck)) : False := by
  unfold World.cell? at h
  rw [hm] at h
  cases h
theorem cell_gbM {w w' : World} {b M : Nat} {l : List ByteArray} {p : Addr} {v : Value} (h : w.cell? p = some v) (hB : Bk w b M l) (hg : w.grownBy w' (some M)) : w'.cell? p = some v := by
  obtain ⟨es, ck, hm, _⟩ := hB.own
  have hne : p.block ≠ M := fun e => cell_nomap h (by rw [e]; exact hm)
  exact (World.cell?_of_block (a := p) (hg.block p.block (World.block_lt_of_cell? w p h) (fun e => by injection e with e; exact hne e))).trans h
theorem cell_bw {w w' : World} {p : Addr} {v : Value} (h : w.cell? p = some v) (hb : Below w.heap.size w w') : w'.cell? p = some v := (hb.cell (p := p) (World.block_lt_of_cell? w p h)).trans h
end Go.Proofs.Ytjgelmfkoefclaa.PAll
