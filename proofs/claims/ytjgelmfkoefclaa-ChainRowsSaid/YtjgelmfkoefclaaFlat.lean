/- Rows of deltas as their own cells: what is read through them, and frames. -/
import Derived.Test.YtjgelmfkoefclaaGivApply
import Derived.Test.YtjgelmfkoefclaaGivOf
namespace Go.Proofs.Ytjgelmfkoefclaa.PAll
open Go.RowKit Go.Proofs.YtjgelmfkoefclaaW.PrintWords Go.Proofs.YtjgelmfkoefclaaW.PrintLast Go.Proofs.YtjgelmfkoefclaaW.PrintMore Go.Proofs.Ytjgelmfkoefclaa.Pure
set_option linter.unusedVariables false

/-- A delta's own cells. -/
structure FD where
  f0 : ByteArray
  f1 : ByteArray
  f2 : Int
  A : Option Addr
  n : Nat
  c : Nat
def FD.cells (x : FD) : List Value := [.string x.f0, .string x.f1, .int .i64 x.f2, .slice x.A x.n x.c]
def kF : Kd FD where
  sz := 4
  E := []
  K := fun _ x cs => cs = x.cells
  M := fun _ _ _ x cs => cs = x.cells
  K_len := fun h => by rw [h]; rfl
  K_one := fun h u hu => by
    rw [h] at hu
    unfold FD.cells at hu
    simp only [List.mem_cons, List.not_mem_nil, or_false] at hu
    rcases hu with rfl | rfl | rfl | rfl <;> rfl
  K_below := fun _ h => h
  K_of_M := fun h => h
  M_mono := fun _ h => h
  M_bound := fun h => h
  M_move := fun _ h => h
  M_lower := fun _ h => h
/-- Steps that are read out of a row of their own type. -/
def CT (w : World) (A : Option Addr) (n : Nat) (xs : List S54) : Prop := Kd.C k54 w A n xs ∧ ∀ ad, A = some ad → ∃ cells, w.heap[ad.block]? = some (.cells cells 54 (0, 0))
theorem CT.keep {w w' : World} {A : Option Addr} {n : Nat} {xs : List S54} (h : CT w A n xs) (hb : ∀ ad, A = some ad → w'.heap[ad.block]? = w.heap[ad.block]?) : CT w' A n xs := by
  obtain ⟨⟨h1, h2, h3⟩, h4⟩ := h
  refine ⟨⟨h1, h2, fun hn => ?_⟩, fun ad e => ?_⟩
  · obtain ⟨ad, e, hcc⟩ := h3 hn
    refine ⟨ad, e, fun j p hp => ?_⟩
    obtain ⟨c, c1, c2, c3⟩ := hcc j p hp
    obtain rfl := k54_open c2
    refine ⟨_, c1, k54_mk w' p, fun i u hu => ?_⟩
    have hblk : (ad.add (j * k54.sz + i)).block = ad.block := by unfold Addr.add; split <;> rfl
    exact (World.cell?_of_block (a := ad.add (j * k54.sz + i)) (by rw [hblk]; exact hb ad e)).trans (c3 i u hu)
  · obtain ⟨cells, hc⟩ := h4 ad e
    exact ⟨cells, (hb ad e).trans hc⟩
theorem CT.gb {w w' : World} {A : Option Addr} {n : Nat} {xs : List S54} {row : Option Nat} (h : CT w A n xs) (hg : w.grownBy w' row) (hr : ∀ (g : Nat) (cells : Array Value), row = some g → w.heap[g]? ≠ some (.cells cells 54 (0, 0))) : CT w' A n xs :=
  h.keep (fun ad e => by
    obtain ⟨cells, hc⟩ := h.2 ad e
    exact hg.block ad.block (blk_lt hc) (fun e2 => hr ad.block cells e2.symm hc))
theorem CT.below {w w' : World} {A : Option Addr} {n : Nat} {xs : List S54} (h : CT w A n xs) (hb : Below w.heap.size w w') : CT w' A n xs := h.gb (gb_of hb none) (fun _ _ e => by cases e)
theorem map_nostep {w : World} {b M : Nat} {l : List ByteArray} (hB : Bk w b M l) : ∀ (g : Nat) (cells : Array Value), some M = some g → w.heap[g]? ≠ some (.cells cells 54 (0, 0)) := fun g cells e hc => by
  obtain ⟨es, ck, hm, _⟩ := hB.own
  injection e with e
  subst e
  rw [hm] at hc
  cases hc
theorem CT.of {w : World} {base : Nat} {ok : Nat → Prop} {A : Option Addr} {n c : Nat} {xs : List S54} (h : Kd.R k54 54 w base ok (.slice A n c) xs) : n = xs.length ∧ xs.length ≤ c ∧ CT w A xs.length xs := by
  obtain ⟨e1, e2, e3⟩ := Kd.R_reads' h
  refine ⟨e1, by omega, e3, fun ad e => ?_⟩
  rcases Nat.eq_zero_or_pos xs.length with h0 | h0
  · subst e
    rcases h.2.choose_spec.1.2 with ⟨h1, _⟩ | ⟨g, cap, cur, h1, h2, h3, _⟩
    · cases h1
    · injection h1 with h1
      injection h1 with h1
      subst h1
      exact ⟨cur, h3⟩
  · obtain ⟨g, cap, h1, h2, h3, h4⟩ := Kd.R_form h h0
    injection h1 with h1
    rw [h1] at e
    injection e with e
    subst e
    exact h4
/-- What they stand for. -/
def DM (w : World) (f : FD) (d : S24) : Prop := f.f0 = d.f0 ∧ f.f1 = d.f1 ∧ f.f2 = d.f2 ∧ f.n = d.f3.length ∧ d.f3.length ≤ f.c ∧ CT w f.A d.f3.length d.f3
theorem DM.gb {w w' : World} {row : Option Nat} {f : FD} {d : S24} (h : DM w f d) (hg : w.grownBy w' row) (hr : ∀ (g : Nat) (cells : Array Value), row = some g → w.heap[g]? ≠ some (.cells cells 54 (0, 0))) : DM w' f d :=
  ⟨h.1, h.2.1, h.2.2.1, h.2.2.2.1, h.2.2.2.2.1, h.2.2.2.2.2.gb hg hr⟩
def Fd (w : World) (fs : List FD) (ds : List S24) : Prop := fs.length = ds.length ∧ ∀ (i : Nat) f d, fs[i]? = some f → ds[i]? = some d → DM w f d
theorem Fd.nil (w : World) : Fd w [] [] := ⟨rfl, fun i f d h => by simp at h⟩
theorem Fd.snoc {w : World} {fs : List FD} {ds : List S24} {f : FD} {d : S24} (h : Fd w fs ds) (hd : DM w f d) : Fd w (fs ++ [f]) (ds ++ [d]) := by
  refine ⟨by rw [List.length_append, List.length_append, h.1]; rfl, fun i f' d' hf hd' => ?_⟩
  rcases Nat.lt_or_ge i fs.length with hi | hi
  · rw [List.getElem?_append_left hi] at hf
    rw [List.getElem?_append_left (by rw [← h.1]; exact hi)] at hd'
    exact h.2 i f' d' hf hd'
  · rw [List.getElem?_append_right hi] at hf
    rw [List.getElem?_append_right (by rw [← h.1]; exact hi), ← h.1] at hd'
    cases hk : i - fs.length with
    | zero =>
      rw [hk] at hf hd'
      injection hf with hf
      injection hd' with hd'
      subst hf hd'
      exact hd
    | succ k => rw [hk] at hf; simp at hf
theorem Fd.gb {w w' : World} {row : Option Nat} {fs : List FD} {ds : List S24} (h : Fd w fs ds) (hg : w.grownBy w' row) (hr : ∀ (g : Nat) (cells : Array Value), row = some g → w.heap[g]? ≠ some (.cells cells 54 (0, 0))) : Fd w' fs ds := ⟨h.1, fun i f d hf hd => (h.2 i f d hf hd).gb hg hr⟩
/-- A row of them is read as a row of deltas. -/
theorem C_flat {w : World} {A : Option Addr} {n : Nat} {fs : List FD} {ds : List S24} (h : Kd.C kF w A n fs) (hd : Fd w fs ds) : Kd.C k24 w A n ds := by
  obtain ⟨h1, h2, h3⟩ := h
  refine ⟨hd.1.symm.trans h1, h2, fun hn => ?_⟩
  obtain ⟨ad, e, hc⟩ := h3 hn
  refine ⟨ad, e, fun j p hp => ?_⟩
  have hj : j < ds.length := (List.getElem?_eq_some_iff.1 hp).1
  have hf : fs[j]? = some (fs[j]'(by rw [hd.1]; exact hj)) := List.getElem?_eq_getElem _
  obtain ⟨c, c1, c2, c3⟩ := hc j _ hf
  obtain ⟨d1, d2, d3, d4, d5, d6⟩ := hd.2 j _ p hf hp
  refine ⟨c, c1, ?_, c3⟩
  have c2' : c = FD.cells (fs[j]'(by rw [hd.1]; exact hj)) := c2
  rw [c2']
  unfold FD.cells
  rw [d1, d2, d3, d4]
  exact k24_mk w p d5 d6.1
theorem C_gb24 {w w' : World} {b M : Nat} {l : List ByteArray} {A : Option Addr} {n : Nat} {xs : List S24} (h : Kd.C k24 w A n xs) (hB : Bk w b M l) (hg : w.grownBy w' (some M)) : Kd.C k24 w' A n xs := by
  obtain ⟨h1, h2, h3⟩ := h
  refine ⟨h1, h2, fun hn => ?_⟩
  obtain ⟨ad, e, hc⟩ := h3 hn
  refine ⟨ad, e, fun j p hp => ?_⟩
  obtain ⟨c, c1, c2, c3⟩ := hc j p hp
  obtain ⟨A3, c3', rfl, k1, k2⟩ := k24_open c2
  exact ⟨_, c1, k24_mk w' p k1 (C_gbM k2 hB hg), fun i u hu => cell_gbM (c3 i u hu) hB hg⟩
theorem C_gbS {w w' : World} {b M : Nat} {l : List ByteArray} {A : Option Addr} {n : Nat} {xs : List ByteArray} (h : Kd.C Kd.string w A n xs) (hB : Bk w b M l) (hg : w.grownBy w' (some M)) : Kd.C Kd.string w' A n xs := by
  obtain ⟨h1, h2, h3⟩ := h
  refine ⟨h1, h2, fun hn => ?_⟩
  obtain ⟨ad, e, hc⟩ := h3 hn
  refine ⟨ad, e, fun j p hp => ?_⟩
  obtain ⟨c, c1, c2, c3⟩ := hc j p hp
  exact ⟨c, c1, c2, fun i u hu => cell_gbM (c3 i u hu) hB hg⟩
theorem cell_bw {w w' : World} {p : Addr} {v : Value} (h : w.cell? p = some v) (hb : Below w.heap.size w w') : w'.cell? p = some v := (hb.cell (p := p) (World.block_lt_of_cell? w p h)).trans h
/-- The delta between two texts, of a book. -/
def DeltaOf (bk : List ByteArray) (s t : ByteArray) (d : S24) : Prop := d.f0 = markV bk s ∧ d.f1 = markV bk t ∧ s ∈ bk ∧ t ∈ bk ∧ d.f2 = t.size ∧ (∀ x ∈ d.f3, okB s.size x) ∧ runL (L8 s) d.f3 = L8 t
theorem DeltaOf.ext {bk bk' : List ByteArray} {s t : ByteArray} {d : S24} (h : DeltaOf bk s t d) (hx : Ext bk bk') : DeltaOf bk' s t d := by
  obtain ⟨h1, h2, h3, h4, h5⟩ := h
  exact ⟨by rw [hx.mark h3]; exact h1, by rw [hx.mark h4]; exact h2, hx.mem h3, hx.mem h4, h5⟩
end Go.Proofs.Ytjgelmfkoefclaa.PAll
