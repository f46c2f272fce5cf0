/- Deltas are run, one behind the other. -/
import Derived.BigQuiet
import Derived.Deep.DeepMust
import Derived.RegionTactic
import Derived.Test.YtjgelmfkoefclaaFlat
namespace Go.Proofs.Ytjgelmfkoefclaa.PAll
open Go.RowKit Go.Proofs.YtjgelmfkoefclaaW.PrintWords Go.Proofs.YtjgelmfkoefclaaW.PrintLast Go.Proofs.YtjgelmfkoefclaaW.PrintMore Go.Proofs.Ytjgelmfkoefclaa.Pure
set_option linter.unusedVariables false
set_option linter.unusedSimpArgs false
attribute [local go_sem] max2_int min2_int max_two min_two

/-- What deltas come to, one behind the other. -/
def ChainR : List ByteArray → List ByteArray → ByteArray → List S24 → Nat → ByteArray → Int → Int → Prop
  | bk, bk', bs, [], i, s, n, er => s = bs ∧ n = i ∧ er = 0 ∧ bk' = bk
  | bk, bk', bs, d :: r, i, s, n, er => ∃ t e bk1, ApplyR bk bk1 bs d.f0 d.f1 d.f2 d.f3 t e ∧ Ext bk bk1 ∧ bk1.length ≤ bk.length + 2 ∧ ((e ≠ 0 ∧ s = ⟨#[]⟩ ∧ n = i ∧ er = e ∧ bk' = bk1) ∨ (e = 0 ∧ ChainR bk1 bk' t r (i + 1) s n er))
def GoodD (d : S24) : Prop := In64 d.f3 ∧ d.f3.length ≤ 1000000 ∧ ∀ x ∈ d.f3, x.f2.size ≤ maxLen
theorem apply_err {l l' : List ByteArray} {bs d0 d1 : ByteArray} {d2 : Int} {st : List S54} {s : ByteArray} {er : Int} (h : ApplyR l l' bs d0 d1 d2 st s er) : (er = 0 ∧ s.size ≤ 524288) ∨ er = 1 ∨ er = 13 ∨ er = 2 ∨ er = 4 ∨ er = 6 := by
  rcases h with ⟨_, _, h, _⟩ | ⟨_, _, _, _, h⟩ | ⟨_, _, _, _, _, h⟩ | ⟨_, _, _, _, _, _, h⟩ | ⟨h1, _, _, h2, h3, _, _, h⟩
  · exact .inr (.inl h)
  · exact .inr (.inr (.inl h))
  · exact .inr (.inr (.inr (h.imp id .inl)))
  · exact .inr (.inr (.inr (.inr (.inr h))))
  · refine .inl ⟨h, ?_⟩
    have e1 := run_len (L8 bs) st (by rw [L8_len]; exact h2)
    rw [← h3, L8_len] at e1
    have := h1.2.2.2.2.2
    have := h1.2.2.2.1
    omega
set_option maxHeartbeats 4000000 in
set_option maxRecDepth 100000 in
theorem crun_calls (b M : Nat) (bk : List ByteArray) (bs : ByteArray) (A0 : Option Addr) (c0 : Nat) (ds : List S24) (w : World) (hr0 : Kd.C k24 w A0 ds.length ds) (hc0 : ds.length ≤ c0) (hB : Bk w b M bk) (hbk : bk.length + 2 * ds.length ≤ 5000000) (hln : ds.length ≤ 1000) (hgd : ∀ d ∈ ds, GoodD d) (hbs : bs.size ≤ 1000000) :
    Calls Try.prog 22 #[.pointer (some ⟨b, 0, none⟩), .string bs, .slice A0 ds.length c0] w fun e w' => ∃ (s : ByteArray) (n er : Int) (bk' : List ByteArray), e = .returned (.tuple #[.string s, .int .i64 n, .int .i64 er]) ∧ ChainR bk bk' bs ds 0 s n er ∧ w.grownBy w' (some M) ∧ Bk w' b M bk' ∧ Ext bk bk' ∧ bk'.length ≤ bk.length + 2 * ds.length := by
  have HR0 := Aside0.mk hr0
  have HB := Aside0.mk hB
  have HBK := Aside0.mk hbk
  have HGD := Aside0.mk hgd
  have HBL : Aside0 (b < w.heap.size ∧ M < w.heap.size) := ⟨hB.ltb, hB.lt⟩
  clear hr0 hB hbk hgd
  go_enter Try.func22, Try.ntmps22
  go_wp2_with fail
  go_loopw [1, 15] (fun v1 v15 wr => ∃ (i : Nat) (cur : ByteArray) (bk1 : List ByteArray), i ≤ ds.length ∧ v1 = .string cur ∧ v15 = .int .i64 i ∧ cur.size ≤ 1000000 ∧ Aside0 (w.grownBy wr (some M)) ∧ Aside0 (Bk wr b M bk1) ∧ Aside0 (Ext bk bk1) ∧ Aside0 (bk1.length ≤ bk.length + 2 * i) ∧ Aside0 (∀ s n er bk', ChainR bk1 bk' cur (ds.drop i) i s n er → ChainR bk bk' bs ds 0 s n er)) (fun _ v15 _ => ds.length - (intOf v15).toNat)
  case atStart => exact ⟨0, bs, bk, Nat.zero_le _, rfl, rfl, hbs, ⟨gb_refl _ _⟩, HB, ⟨Ext.refl _⟩, ⟨Nat.le_refl _⟩, ⟨fun s n er bk' h => h⟩⟩
  case round =>
    obtain ⟨i, cur, bk1, hi, rfl, rfl, hcs, HG, HBR, HX, HL, HCR⟩ := hrel
    by_cases hlt : i < ds.length
    · have hb1 : decide (i < ds.length) = true := decide_eq_true hlt
      have hC24 := C_gb24 HR0.out HB.out HG.out
      obtain ⟨ad, A3, c3, hA0, g0, g1, g2, g3, g4, g5⟩ := at_T24 hC24 (i : Int) (by omega) (by omega)
      subst hA0
      have hdd : ds[i]? = some (rd_T24 ds (i : Int)) := by unfold rd_T24; rw [Int.toNat_natCast, List.getD_eq_getElem?_getD, List.getElem?_eq_getElem hlt]; rfl
      obtain ⟨d, hd⟩ : ∃ d, d = rd_T24 ds (i : Int) := ⟨_, rfl⟩
      rw [← hd] at g0 g1 g2 g3 g4 g5 hdd
      rw [Int.toNat_natCast] at g0 g1 g2 g3
      have hdr : ds.drop i = d :: ds.drop (i + 1) := by
        obtain ⟨h1, h2⟩ := List.getElem?_eq_some_iff.1 hdd
        rw [← h2]; exact List.drop_eq_getElem_cons h1
      obtain ⟨k1, k2, k3⟩ := HGD.out d (List.mem_of_getElem? hdd)
      have HDR := Aside0.mk hdr
      have HC5 := Aside0.mk g5
      have HB1X : Aside0 (bk1.length + 2 < 10000000) := ⟨by have := HL.out; have := HBK.out; omega⟩
      obtain ⟨d0, d1, d2, st⟩ := d
      simp only at g0 g1 g2 g3 g4 k1 k2 k3 HDR HC5
      have HAP := Aside0.mk (fun wx (h : Kd.C k54 wx A3 st.length st) (hb : Bk wx b M bk1) => apply_calls b M bk1 cur d0 d1 d2 A3 c3 st wx h g4 k1 k2 hcs k3 hb HB1X.out)
      clear hd hdd hdr g5 k1 k2 k3 hC24
      go_upto_region 5 with (go_at_call 28; go_loud ((with_reducible refine (HAP.out _ (Kd.C_below HC5.out (below_alloc (Below.refl _ _) _)) (HBR.out.below (below_alloc (Below.refl _ _) _))).mono ?_); rintro _ wa ⟨s, er, bk2, rfl, har, hg, hbk, hx, hl2⟩; have HAR := Aside0.mk har; have HGA := Aside0.mk (gb_trans (gb_below HG.out (below_alloc (Below.refl _ _) _)) hg); have HBA := Aside0.mk hbk; have HXA := Aside0.mk hx; have HLA := Aside0.mk hl2; clear har hg hbk hx hl2))
      rcases apply_err HAR.out with ⟨rfl, hss⟩ | he
      · go_wp2_with fail
        go_roundw
        case rel =>
          refine ⟨i + 1, s, bk2, by omega, rfl, by go_num, by omega, HGA, HBA, ⟨HX.out.trans HXA.out⟩, ⟨by have := HL.out; have := HLA.out; omega⟩, ⟨fun s' n' er' bk' h => HCR.out s' n' er' bk' ?_⟩⟩
          rw [HDR.out]
          exact ⟨s, 0, bk2, HAR.out, HXA.out, HLA.out, .inr ⟨rfl, h⟩⟩
        case measure => simp [intOf]; omega
      · have hne : er ≠ 0 := by omega
        have heb : (er != 0) = true := bne_iff_ne.mpr hne
        have HNE := Aside0.mk hne
        clear he hne
        go_wp2_with fail
        go_ret3
        have hs : ChainR bk1 bk2 cur (ds.drop i) i ⟨#[]⟩ i er := by
          rw [HDR.out]
          exact ⟨s, er, bk2, HAR.out, HXA.out, HLA.out, .inl ⟨HNE.out, rfl, rfl, rfl, rfl⟩⟩
        exact ⟨⟨#[]⟩, i, er, bk2, rfl, HCR.out _ _ _ _ hs, HGA.out, HBA.out, HX.out.trans HXA.out, by have := HL.out; have := HLA.out; omega⟩
    · have hb1 : decide (i < ds.length) = false := decide_eq_false hlt
      have hie : i = ds.length := by omega
      subst hie
      go_wp2_with fail
      go_ret3
      have hs : ChainR bk1 bk1 cur (ds.drop ds.length) ds.length cur ds.length 0 := by
        rw [List.drop_length]
        exact ⟨rfl, rfl, rfl, rfl⟩
      exact ⟨cur, ds.length, 0, bk1, rfl, HCR.out _ _ _ _ hs, HG.out, HBR.out, HX.out, HL.out⟩
end Go.Proofs.Ytjgelmfkoefclaa.PAll
