/- SnapBack, the plain part: a snapshot that may be is told by its bytes and read as it was; what is read is told by just those bytes; cut short they are none's; its name tells its id. -/
import Derived.Test.YtfihbohdhcidbaaDoorZSnpBAll
import Derived.Test.YtfihbohdhcidbaaDoorQSnpBx8
namespace Go.Proofs.YtfihbohdhcidbaaDoor.Pure
open Go.RowKit Go.Proofs.YtfihbohdhcidbaaDoor.QSnpB Go.Proofs.YtfihbohdhcidbaaDoorW.PrintWords Go.Proofs.YtfihbohdhcidbaaDoorW.PrintLast
open Go Go.Proofs.YtfihbohdhcidbaaDoor.PathOrd Go.Proofs.YtfihbohdhcidbaaDoor
set_option linter.unusedVariables false
set_option maxRecDepth 100000
theorem works_told : garretlaw20_works.f = some true := by decide +kernel
theorem wf_i64 {a : Int} (h : (Lit.int .i64 a).wf = true) : -9223372036854775808 ≤ a ∧ a ≤ 9223372036854775807 := by
  simp [Lit.wf, IntKind.min, IntKind.max, IntKind.signed, IntKind.bits] at h
  omega
theorem among_told (a n : Int) (h0 : -9223372036854775808 ≤ a) (h1 : a ≤ 9223372036854775807) (hn : 0 < n) (hn2 : n ≤ 1000000000) : ∃ r, garretbook_Among.f a n = some r ∧ 0 ≤ r ∧ r < n := by
  unfold garretbook_Among.f
  rw [if_neg (by omega)]
  have hA : -n < Int.tmod a n ∧ Int.tmod a n < n := by
    have := Int.tmod_lt_of_pos a hn
    have h2 := Int.tmod_lt_of_pos (-a) hn
    rw [Int.neg_tmod] at h2
    omega
  have hw : wrap64 (Int.tmod a n + n) = Int.tmod a n + n := by
    have := hA.1; have := hA.2
    generalize Int.tmod a n = q at *
    unfold wrap64; omega
  rw [hw]
  exact ⟨_, rfl, Int.tmod_nonneg _ (by omega), Int.tmod_lt_of_pos _ hn⟩
theorem short_l (t : Int) (h : ByteArray) (p g : List ByteArray) (r q : ByteArray) : ∀ (d i : Nat) (acc : Int) (k : Nat), i + d = min p.length 100 → 0 ≤ acc → acc ≤ 2000 * (i : Int) → (∀ j, j < i → (p.getD j ByteArray.empty).size ≤ 2000) → 2 * d + 3 ≤ k →
    ∃ b, garretlaw20_short.l0 k acc (i : Int) t h p g r q = some b ∧ (b = true → (∀ y ∈ p, y.size ≤ 2000) ∧ p.length < 100 ∧ g.length < 100)
  | 0, i, acc, k, hi, h0, h1, ha, hk => by
    obtain ⟨k, rfl⟩ : ∃ m, k = m + 2 := ⟨k - 2, by omega⟩
    have j1 : ∃ b, garretlaw20_short.j1 (k + 1) acc (i : Int) false t h p g r q = some b ∧ (b = true → (∀ y ∈ p, y.size ≤ 2000) ∧ p.length < 100 ∧ g.length < 100) := by
      rw [garretlaw20_short.j1, if_neg (by decide)]
      by_cases c1 : acc ≤ 5000
      · rw [if_pos c1]
        by_cases c2 : (p.length : Int) < 100
        · rw [if_pos c2]
          refine ⟨_, rfl, fun hb => ⟨fun y hy => ?_, by omega, by have := of_decide_eq_true hb; omega⟩⟩
          obtain ⟨j, hj, rfl⟩ := List.getElem_of_mem hy
          have := ha j (by omega)
          rwa [List.getD_eq_getElem?_getD, List.getElem?_eq_getElem hj] at this
        · rw [if_neg c2]; exact ⟨false, rfl, fun h => by cases h⟩
      · rw [if_neg c1]; exact ⟨false, rfl, fun h => by cases h⟩
    rw [garretlaw20_short.l0]
    by_cases c : (i : Int) < (p.length : Int)
    · rw [if_pos c, decide_eq_false (show ¬ (i : Int) < 100 by omega)]
      exact j1
    · rw [if_neg c]
      exact j1
  | d + 1, i, acc, k, hi, h0, h1, ha, hk => by
    obtain ⟨k, rfl⟩ : ∃ m, k = m + 2 := ⟨k - 2, by omega⟩
    have hlt : i < p.length := by omega
    have ex : rdOf ByteArray.empty p (i : Int) = p[i] := by simp [rdOf, List.getD_eq_getElem?_getD, hlt]
    rw [garretlaw20_short.l0, if_pos (by omega), decide_eq_true (show (i : Int) < 100 by omega), garretlaw20_short.j1, if_pos rfl, if_pos (by omega), if_pos (by omega), ex]
    by_cases c : (p[i].size : Int) > 2000
    · rw [if_pos c]; exact ⟨false, rfl, fun h => by cases h⟩
    · rw [if_neg c, show wrap64 ((i : Int) + 1) = ((i + 1 : Nat) : Int) by unfold wrap64; omega, show wrap64 (acc + (p[i].size : Int)) = acc + (p[i].size : Int) by unfold wrap64; omega]
      refine short_l t h p g r q d (i + 1) _ k (by omega) (by omega) (by omega) (fun j hj => ?_) (by omega)
      by_cases e : j = i
      · subst e
        rw [List.getD_eq_getElem?_getD, List.getElem?_eq_getElem hlt]
        show p[j].size ≤ 2000
        omega
      · exact ha j (by omega)
theorem hex_all : ∀ c : Fin 256, ¬ (sha_Unhex.dig (sha_Hex.hd (c.val / 16)) < 0 ∨ sha_Unhex.dig (sha_Hex.hd (c.val % 16)) < 0) ∧ sha_Unhex.byte (sha_Hex.hd (c.val / 16)) (sha_Hex.hd (c.val % 16)) = c.val.toUInt8 := by decide +kernel
theorem unhex_hex : ∀ (l acc : List UInt8), sha_Unhex.go (sha_Hex.hex l) acc = (⟨(acc ++ l).toArray⟩, 0)
  | [], acc => by simp [sha_Hex.hex, sha_Unhex.go]
  | c :: r, acc => by
    have h := hex_all ⟨c.toNat, c.toNat_lt⟩
    have e : c.toNat.toUInt8 = c := by simp
    simp only [e] at h
    have hc : sha_Hex.hex (c :: r) = sha_Hex.hd (c.toNat / 16) :: sha_Hex.hd (c.toNat % 16) :: sha_Hex.hex r := by simp [sha_Hex.hex]
    rw [hc]
    simp only [sha_Unhex.go]
    rw [if_neg h.1, h.2, unhex_hex r]
    simp
def dgst (b : ByteArray) : ByteArray := ⟨(Sha.digest b.data.toList).toArray⟩
theorem dgst_list (b : ByteArray) : (dgst b).data.toList = Sha.digest b.data.toList := rfl
theorem dgst_size (b : ByteArray) : (dgst b).size = 32 := by
  rw [← data_length, dgst_list, Sha.digest_length]
theorem sum_told (a : ByteArray) (h : a.size ≤ 1000000000000) : sha_Sum.f [a] = some (dgst a) := by
  unfold sha_Sum.f
  have e : sha_Sum.cat [a] = a.data.toList := by simp [sha_Sum.cat]
  rw [e, if_pos (by rw [data_length]; exact h)]
  rfl
theorem name_told (b : ByteArray) : ∃ n, snap_Name.f (dgst b) = some n ∧ snap_IdOf.f n = some (dgst b, 0) := by
  have hz := dgst_size b
  unfold snap_Name.f sha_Hex.f
  rw [if_pos (by omega)]
  simp only [Option.bind_some]
  have hh : (sha_Hex.hex (dgst b).data.toList).length = 64 := by rw [sha_Hex.hex_length, data_length, hz]
  generalize hx : (⟨(sha_Hex.hex (dgst b).data.toList).toArray⟩ : ByteArray) = x
  have hxl : x.data.toList = sha_Hex.hex (dgst b).data.toList := by rw [← hx]
  have hxs : x.size = 64 := by rw [← data_length, hxl, hh]
  rw [if_pos (by omega)]
  refine ⟨_, rfl, ?_⟩
  have hc : strings_CutPrefix.f ((⟨#[115, 110, 97, 112, 47]⟩ : ByteArray) ++ x) (⟨#[115, 110, 97, 112, 47]⟩ : ByteArray) = some (x, true) := by
    rcases cutp_told ((⟨#[115, 110, 97, 112, 47]⟩ : ByteArray) ++ x) (⟨#[115, 110, 97, 112, 47]⟩ : ByteArray) with ⟨r, h1, _, h2⟩ | ⟨h1, _⟩
    · rw [bytesOf_append] at h1
      have := bytesOf_inj (List.append_cancel_left h1)
      rw [h2, this]
    · exact absurd (bytesOf_append _ _) (h1 _)
  unfold snap_IdOf.f
  rw [bnd hc]
  dsimp only
  have hu : sha_Unhex.f x = some (dgst b, 0) := by
    unfold sha_Unhex.f
    rw [if_pos (by omega), hxl, unhex_hex]
    rfl
  rw [bnd hu]
  dsimp only
  rw [if_pos rfl, if_pos rfl, isId_told, Option.bind_some, decide_eq_true hz, if_pos rfl]
theorem back_j1 {k : Nat} (hk : 1600000 ≤ k) (s : ByteArray) : garretlaw20_SnapBack.j1 (k + 1) s = some true := by
  rw [garretlaw20_SnapBack.j1]
  rcases decode_told (k := k) (by omega) s with ⟨t, h, p, g, r, q, hr, hg, hb⟩ | hr
  · rw [bnd hr]
    dsimp only
    obtain ⟨b, he, hbb⟩ := encode_told (k := k) (by omega) hg
    rw [if_pos rfl, bnd he]
    dsimp only
    rw [if_pos rfl]
    have : b = s := bytesOf_inj (by rw [hbb, hb])
    rw [this]
    simp
  · unfold sNone at hr
    rw [bnd hr]
    dsimp only
    rw [if_neg (by decide)]
theorem SnapBack : garretlaw20_SnapBack.Pure := by
  intro t h p g r q s at_ _ hh hp hg _ _ _ hat
  obtain ⟨q0, q1⟩ := wf_i64 hat
  refine ⟨2000002, ?_⟩
  have j0 : ∀ x : Bool, (x = false → (∀ y ∈ p, y.size ≤ 2000) ∧ p.length < 100 ∧ g.length < 100) → garretlaw20_SnapBack.j0 2000002 s at_ x t h p g r q = some true := fun x hx => by
    rw [garretlaw20_SnapBack.j0]
    cases x with
    | true => rfl
    | false =>
      obtain ⟨a1, a2, a3⟩ := hx rfl
      rw [if_neg (by decide)]
      cases hc : chkB t h p g r q with
      | false =>
        rw [bnd (encode_bad (k := 2000001) (by omega) (by omega) (fun x hx => by have := a1 x hx; omega) (fun x hx => hg.2.2 x hx) hc)]
        dsimp only
        rw [if_neg (by decide)]
        exact back_j1 (k := 2000000) (by omega) s
      | true =>
        obtain ⟨b, he, hb⟩ := encode_told (k := 2000001) (by omega) hc
        have ln := sEnc_len (sOk hc)
        have hz : b.size = (sEnc t h p g r q).length := by rw [size_eq, hb]
        obtain ⟨n, hn, n0, n1⟩ := among_told at_ (b.size : Int) q0 q1 (by omega) (by omega)
        have hcut := decode_cut (k := 2000001) (by omega) hc b (b.extract 0 n.toNat) hb ((bytesOf b).drop n.toNat)
          (by intro h; have := List.drop_eq_nil_iff.1 h; rw [bytesOf_size] at this; omega)
          (by rw [ext_take, List.take_append_drop])
        unfold sNone at hcut
        have hid : snap_Id.f 2000001 t h p g r q = some (dgst b, 0) := by
          unfold snap_Id.f
          rw [bnd he]
          dsimp only
          rw [if_pos rfl, bnd (sum_told b (by omega))]
        obtain ⟨m, hm1, hm2⟩ := name_told b
        have hsame : snap_Same.f 2000001 t h p g r q t h p g r q = some true := by
          unfold snap_Same.f
          rw [order_told 2000001 t h p g r q t h p g r q (by omega) (by omega) (by omega) (by omega) (by omega), ordS_P, cmp_P.self]
          rfl
        rw [bnd he]
        dsimp only
        rw [if_pos rfl, bnd (decode_fwd (by omega) hc b hb)]
        dsimp only
        rw [bnd hid]
        dsimp only
        rw [bnd hn, if_pos n0, if_pos (by omega), bnd hcut]
        dsimp only
        rw [bnd hm1, bnd hm2]
        dsimp only
        rw [if_pos rfl, bnd hsame, if_pos rfl, if_pos rfl, bnd (sum_told b (by omega)), if_pos rfl, if_pos rfl, if_pos rfl, if_pos rfl]
        exact back_j1 (k := 2000000) (by omega) s
  obtain ⟨b, hb, hb2⟩ := short_l t h p g r q (min p.length 100) 0 0 2000002 (by omega) (by omega) (by omega) (fun j hj => by omega) (by omega)
  have hsh : garretlaw20_short.f 2000002 t h p g r q = some b := hb
  rw [garretlaw20_SnapBack.f, works_told, Option.bind_some, if_pos rfl, bnd hsh]
  cases b with
  | false =>
    rw [if_neg (by decide)]
    exact j0 true (fun h => by cases h)
  | true =>
    rw [if_pos rfl]
    exact j0 _ (fun _ => hb2 rfl)
end Go.Proofs.YtfihbohdhcidbaaDoor.Pure
