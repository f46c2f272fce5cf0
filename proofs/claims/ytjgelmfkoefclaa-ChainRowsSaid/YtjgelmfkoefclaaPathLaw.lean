/- Deltas between texts, one behind the other: where running them comes to. -/
import Derived.Test.YtjgelmfkoefclaaGivChainRun
namespace Go.Proofs.Ytjgelmfkoefclaa.Pure
open Go.RowKit Go.Proofs.YtjgelmfkoefclaaW.PrintWords Go.Proofs.YtjgelmfkoefclaaW.PrintLast Go.Proofs.YtjgelmfkoefclaaW.PrintMore Go.Proofs.Ytjgelmfkoefclaa.PAll
set_option linter.unusedVariables false

theorem DeltaOf.right {bk : List ByteArray} {s t : ByteArray} {d : S24} (h : DeltaOf bk s t d) (ht : t.size ≤ 524288) : RightP d.f0 d.f1 d.f2 d.f3 := by
  obtain ⟨h1, h2, _, _, h3, h4, h5⟩ := h
  have e := run_len (L8 s) d.f3 (by rw [L8_len]; exact h4)
  rw [h5, L8_len] at e
  refine ⟨by rw [h1]; exact markV_size _ _, by rw [h2]; exact markV_size _ _, by omega, by omega, fun x hx => (h4 x hx).1, by omega⟩
theorem apply_right {bk bk1 : List ByteArray} {s t s' : ByteArray} {d : S24} {e : Int} (h : DeltaOf bk s t d) (ha : ApplyR bk bk1 s d.f0 d.f1 d.f2 d.f3 s' e) (hx : Ext bk bk1) (ht : t.size ≤ 524288) : e = 0 ∧ s' = t := by
  have hr := DeltaOf.right h ht
  obtain ⟨h1, h2, h3, h4, h5, h6, h7⟩ := h
  have m1 : markV bk1 s = d.f0 := by rw [hx.mark h3]; exact h1.symm
  have m2 : markV bk1 t = d.f1 := by rw [hx.mark h4]; exact h2.symm
  rcases ha with ⟨a1, _⟩ | ⟨_, _, a1, _⟩ | ⟨_, _, _, a1, _⟩ | ⟨_, _, _, _, ⟨t2, a1, _, a2⟩, _⟩ | ⟨_, _, _, _, a1, _, _, a2⟩
  · exact absurd hr a1
  · exact absurd m1 a1
  · exact absurd h6 a1
  · have : t2 = t := L8_inj (a1.trans h7)
    rw [this] at a2
    exact absurd m2 a2
  · exact ⟨a2, L8_inj (a1.trans h7)⟩
/-- The way that deltas lead. -/
def PathD (bk : List ByteArray) : ByteArray → List S24 → ByteArray → Prop
  | s, [], t => s = t
  | s, d :: r, t => ∃ m, m.size ≤ 524288 ∧ DeltaOf bk s m d ∧ PathD bk m r t
theorem PathD.ext {bk bk1 : List ByteArray} (hx : Ext bk bk1) : ∀ {ds : List S24} {s t : ByteArray}, PathD bk s ds t → PathD bk1 s ds t
  | [], _, _, h => h
  | d :: r, s, t, h => by
    obtain ⟨m, h1, h2, h3⟩ := h
    exact ⟨m, h1, h2.ext hx, PathD.ext hx h3⟩
theorem chain_path {bk' : List ByteArray} {s' : ByteArray} {n er : Int} (r : List S24) : ∀ (ds : List S24) (bk : List ByteArray) (s t : ByteArray) (i : Nat), PathD bk s ds t → ChainR bk bk' s (ds ++ r) i s' n er →
    ∃ bk1, Ext bk bk1 ∧ bk1.length ≤ bk.length + 2 * ds.length ∧ ChainR bk1 bk' t r (i + ds.length) s' n er
  | [], bk, s, t, i, hp, h => by
    obtain rfl : s = t := hp
    exact ⟨bk, Ext.refl _, Nat.le_refl _, h⟩
  | d :: ds, bk, s, t, i, hp, h => by
    obtain ⟨m, h1, h2, h3⟩ := hp
    obtain ⟨t', e, bk1, h4, h5, h6, h7⟩ := h
    obtain ⟨rfl, rfl⟩ := apply_right h2 h4 h5 h1
    rcases h7 with ⟨h8, _⟩ | ⟨_, h8⟩
    · exact absurd rfl h8
    · obtain ⟨bk2, k1, k2, k3⟩ := chain_path r ds bk1 _ t (i + 1) (PathD.ext h5 h3) h8
      refine ⟨bk2, h5.trans k1, by rw [List.length_cons]; omega, ?_⟩
      rw [List.length_cons, show i + (ds.length + 1) = i + 1 + ds.length by omega]
      exact k3
theorem path_of {bk : List ByteArray} {l : List ByteArray} {ds : List S24} (hl : ds.length = l.length - 1) (hs : ∀ x ∈ l, x.size ≤ 1000) (hD : ∀ i s t d, l[i]? = some s → l[i + 1]? = some t → ds[i]? = some d → DeltaOf bk s t d) :
    ∀ (k a : Nat) (s t : ByteArray), l[a]? = some s → l[a + k]? = some t → PathD bk s ((ds.drop a).take k) t
  | 0, a, s, t, h1, h2 => by
    rw [Nat.add_zero, h1] at h2
    injection h2
  | k + 1, a, s, t, h1, h2 => by
    have hlt : a + (k + 1) < l.length := (List.getElem?_eq_some_iff.1 h2).1
    have hda : a < ds.length := by omega
    have hm : l[a + 1]? = some (l[a + 1]'(by omega)) := List.getElem?_eq_getElem _
    have hd : ds[a]? = some ds[a] := List.getElem?_eq_getElem hda
    rw [List.drop_eq_getElem_cons hda, List.take_succ_cons]
    refine ⟨_, Nat.le_trans (hs _ (List.mem_of_getElem? hm)) (by decide), hD a s _ _ h1 hm hd, ?_⟩
    exact path_of hl hs hD k (a + 1) _ t hm (by rw [show a + 1 + k = a + (k + 1) by omega]; exact h2)
end Go.Proofs.Ytjgelmfkoefclaa.Pure
