/- Gear, the plain part: how long the first chunk is, and the chunks, as functions without rounds. No program in it but the printed functions. -/
import Derived.Test.YtfhipccjnmfefaaDoorQGearx1
namespace Go.Proofs.YtfhipccjnmfefaaDoor.QGear
open Go.RowKit Go.Proofs.YtfhipccjnmfefaaDoorW.PrintWords Go.Proofs.YtfhipccjnmfefaaDoorW.PrintLast Go.Proofs.YtfhipccjnmfefaaDoorW.PrintMore
set_option linter.unusedVariables false

theorem bnd {α β : Type} {a : Option α} {x : α} {f : α → Option β} (h : a = some x) : a.bind f = f x := by rw [h]; rfl

theorem bt_extract (s : ByteArray) (n i : Nat) (hi : i < n) (hn : n ≤ s.size) : bt (s.extract 0 n) (i : Int) = bt s (i : Int) := by
  have h1 : i < (s.extract 0 n).size := by rw [ByteArray.size_extract]; omega
  have h2 : i < s.size := by omega
  unfold bt
  simp only [Int.toNat_natCast]
  rw [dif_pos h1, dif_pos h2, ByteArray.getElem_extract]
  simp

/-- What one byte makes of the hash. -/
def gstep (s : ByteArray) (i : Nat) (h : Int) : Int := IntKind.u64.wrap (IntKind.u64.wrap (h * 2) + gear_of.s2 (bt s (i : Int)))
/-- Where the scan ends that stands at i and has m bytes left. -/
def gscan (b : Int) (s : ByteArray) : Nat → Nat → Int → Nat
  | 0, i, _ => i
  | m + 1, i, h => if shr .u64 (gstep s i h) (wrap64 (64 - b)) = 0 then i + 1 else gscan b s m (i + 1) (gstep s i h)

/-- A setup that may be. -/
def GOK (x0 b x2 : Int) : Prop := 1 ≤ x0 ∧ x0 ≤ 4096 ∧ 1 ≤ b ∧ b ≤ 16 ∧ x0 ≤ x2 ∧ x2 ≤ 16384
theorem check_ok {x0 b x2 : Int} (h : GOK x0 b x2) : gear_Check.f x0 b x2 = some 0 := by
  obtain ⟨h1, h2, h3, h4, h5, h6⟩ := h
  unfold gear_Check.f
  rw [if_pos h1, if_pos h2, if_pos h3, if_pos h4, if_pos h5, if_pos h6]
theorem check_bad {x0 b x2 : Int} (h : ¬ GOK x0 b x2) : gear_Check.f x0 b x2 = some 1 := by
  unfold GOK at h
  unfold gear_Check.f
  repeat' split
  all_goals first | rfl | (exfalso; omega)

theorem first_l0 (x0 b x2 : Int) (hb0 : 1 ≤ b) (hb : b ≤ 16) (s : ByteArray) (n : Nat) (hn : n ≤ s.size) (hn2 : n ≤ 1000000) :
    ∀ (m i k : Nat) (h : Int), i + m = n → m < k → gear_Setup_first.l0 k (s.extract 0 n) h (i : Int) x0 b x2 = some ((gscan b s m i h : Nat) : Int) := by
  have hz : (s.extract 0 n).size = n := by rw [ByteArray.size_extract]; omega
  intro m
  induction m with
  | zero =>
    intro i k h him hk
    obtain ⟨k, rfl⟩ : ∃ q, k = q + 1 := ⟨k - 1, by omega⟩
    simp only [gear_Setup_first.l0]
    rw [hz, if_neg (by omega)]
    show some (n : Int) = some ((i : Nat) : Int)
    rw [show n = i by omega]
  | succ m ih =>
    intro i k h him hk
    obtain ⟨k, rfl⟩ : ∃ q, k = q + 1 := ⟨k - 1, by omega⟩
    have hw : wrap64 ((i : Int) + 1) = ((i + 1 : Nat) : Int) := by unfold wrap64; omega
    have hsh : 0 ≤ wrap64 (64 - b) := by unfold wrap64; omega
    have hnx := ih (i + 1) k (gstep s i h) (by omega) (by omega)
    simp only [gear_Setup_first.l0]
    rw [hz, if_pos (by omega), if_pos (by omega), bt_extract s n i (by omega) hn, bnd (show gear_of.f (bt s (i : Int)) = some (gear_of.s2 (bt s (i : Int))) from rfl), if_pos hsh, hw]
    show (if shr .u64 (gstep s i h) (wrap64 (64 - b)) = 0 then some ((i + 1 : Nat) : Int) else gear_Setup_first.l0 k (s.extract 0 n) (gstep s i h) ((i + 1 : Nat) : Int) x0 b x2) = _
    rw [hnx]
    simp only [gscan]
    split <;> rfl

/-- How long the first chunk is. -/
def firstN (x0 b x2 : Int) (s : ByteArray) : Nat :=
  if (s.size : Int) ≤ x0 then s.size else gscan b s (min s.size x2.toNat - (x0 - 1).toNat) (x0 - 1).toNat 0
theorem first_told {x0 b x2 : Int} (hx : GOK x0 b x2) (s : ByteArray) {k : Nat} (hk : 16385 ≤ k) : gear_Setup_first.f k x0 b x2 s = some ((firstN x0 b x2 s : Nat) : Int) := by
  obtain ⟨h1, h2, h3, h4, h5, h6⟩ := hx
  unfold gear_Setup_first.f firstN
  by_cases c : (s.size : Int) ≤ x0
  · rw [if_pos c, if_pos c]
  · rw [if_neg c, if_neg c]
    have hm : mn (s.size : Int) x2 = ((min s.size x2.toNat : Nat) : Int) := by unfold mn; split <;> omega
    have hw : wrap64 (x0 - 1) = (((x0 - 1).toNat : Nat) : Int) := by unfold wrap64; omega
    rw [hm, if_pos (by omega), if_pos (by omega), hw, Int.toNat_natCast]
    exact first_l0 x0 b x2 h3 h4 s _ (by omega) (by omega) _ _ k 0 (by omega) (by omega)

theorem gscan_le (b : Int) (s : ByteArray) : ∀ m i h, i ≤ gscan b s m i h ∧ gscan b s m i h ≤ i + m ∧ (0 < m → i < gscan b s m i h) := by
  intro m
  induction m with
  | zero => intro i h; exact ⟨Nat.le_refl _, Nat.le_refl _, fun h => absurd h (by omega)⟩
  | succ m ih =>
    intro i h
    simp only [gscan]
    split
    · omega
    · have := ih (i + 1) (gstep s i h); omega
theorem gscan_ext (b : Int) (s u : ByteArray) : ∀ (m i : Nat) (h : Int), (∀ j : Nat, i ≤ j → j < i + m → bt s (j : Int) = bt u (j : Int)) → gscan b s m i h = gscan b u m i h := by
  intro m
  induction m with
  | zero => intro i h _; rfl
  | succ m ih =>
    intro i h hj
    have e : gstep s i h = gstep u i h := by unfold gstep; rw [hj i (by omega) (by omega)]
    simp only [gscan, e]
    rw [ih (i + 1) _ (fun j h1 h2 => hj j (by omega) (by omega))]
theorem gscan_more (b : Int) (s : ByteArray) : ∀ m i h m', gscan b s m i h < i + m → m ≤ m' → gscan b s m' i h = gscan b s m i h := by
  intro m
  induction m with
  | zero => intro i h m' hlt _; simp [gscan] at hlt
  | succ m ih =>
    intro i h m' hlt hle
    obtain ⟨m', rfl⟩ : ∃ q, m' = q + 1 := ⟨m' - 1, by omega⟩
    simp only [gscan] at hlt ⊢
    split
    · rfl
    · rename_i hz
      rw [if_neg hz] at hlt
      exact ih (i + 1) _ m' (by omega) (by omega)

theorem firstN_bounds {x0 b x2 : Int} (hx : GOK x0 b x2) (s : ByteArray) : firstN x0 b x2 s ≤ s.size ∧ (firstN x0 b x2 s : Int) ≤ x2 ∧ (0 < s.size → 0 < firstN x0 b x2 s) ∧ (firstN x0 b x2 s < s.size → x0 ≤ (firstN x0 b x2 s : Int)) := by
  obtain ⟨h1, h2, h3, h4, h5, h6⟩ := hx
  unfold firstN
  by_cases c : (s.size : Int) ≤ x0
  · rw [if_pos c]; omega
  · rw [if_neg c]
    have := gscan_le b s (min s.size x2.toNat - (x0 - 1).toNat) (x0 - 1).toNat 0
    omega
theorem size_append (s u : ByteArray) : (s ++ u).size = s.size + u.size := ByteArray.size_append ..
theorem bt_append (s u : ByteArray) (i : Nat) (hi : i < s.size) : bt (s ++ u) (i : Int) = bt s (i : Int) := by
  have h1 : i < (s ++ u).size := by rw [size_append]; omega
  unfold bt
  simp only [Int.toNat_natCast]
  rw [dif_pos h1, dif_pos hi, ByteArray.getElem_append_left hi]
theorem firstN_ext {x0 b x2 : Int} (hx : GOK x0 b x2) (s u : ByteArray) (hlt : firstN x0 b x2 s < s.size) : firstN x0 b x2 (s ++ u) = firstN x0 b x2 s := by
  obtain ⟨h1, h2, h3, h4, h5, h6⟩ := hx
  unfold firstN at hlt ⊢
  by_cases c : (s.size : Int) ≤ x0
  · rw [if_pos c] at hlt; omega
  · rw [if_neg c] at hlt ⊢
    rw [size_append, if_neg (by omega)]
    have hb := gscan_le b s (min s.size x2.toNat - (x0 - 1).toNat) (x0 - 1).toNat 0
    have he : gscan b (s ++ u) (min s.size x2.toNat - (x0 - 1).toNat) (x0 - 1).toNat 0 = gscan b s (min s.size x2.toNat - (x0 - 1).toNat) (x0 - 1).toNat 0 := gscan_ext b _ _ _ _ _ (fun j j1 j2 => bt_append s u j (by omega))
    by_cases d : min (s.size + u.size) x2.toNat = min s.size x2.toNat
    · rw [d, he]
    · rw [← he]
      exact gscan_more b (s ++ u) _ _ _ _ (by omega) (by omega)

/-- The chunks, m bytes at the most. -/
def cutN (x0 b x2 : Int) : Nat → ByteArray → List ByteArray
  | 0, _ => []
  | m + 1, s => if s.size = 0 then [] else s.extract 0 (firstN x0 b x2 s) :: cutN x0 b x2 m (s.extract (firstN x0 b x2 s) s.size)
theorem toList_nil (s : ByteArray) : s.toList = ([] : List UInt8) ↔ s.size = 0 := by
  rw [ByteArray.toList_eq, ← data_length]
  exact List.length_eq_zero_iff.symm
theorem size_cut (s : ByteArray) (t : Nat) (ht : t ≤ s.size) : (s.extract t s.size).size = s.size - t := by rw [ByteArray.size_extract]; omega
theorem chunks_l0 {x0 b x2 : Int} (hx : GOK x0 b x2) : ∀ (m : Nat) (s : ByteArray) (out : List ByteArray) (k : Nat), s.size ≤ m → out.length + s.size < 8796093022208 → m + 16387 ≤ k → gear_Chunks.l0 k s out x0 b x2 = some (out ++ cutN x0 b x2 m s) := by
  intro m
  induction m with
  | zero =>
    intro s out k hs hl hk
    obtain ⟨k, rfl⟩ : ∃ q, k = q + 1 := ⟨k - 1, by omega⟩
    simp only [gear_Chunks.l0]
    rw [if_pos ((toList_nil s).2 (by omega))]
    simp [cutN]
  | succ m ih =>
    intro s out k hs hl hk
    obtain ⟨k, rfl⟩ : ∃ q, k = q + 1 := ⟨k - 1, by omega⟩
    simp only [gear_Chunks.l0]
    by_cases c : s.size = 0
    · rw [if_pos ((toList_nil s).2 c)]
      simp [cutN, c]
    · have hb := firstN_bounds hx s
      rw [if_neg (fun h => c ((toList_nil s).1 h)), bnd (first_told hx s (by omega)), if_pos (by omega), if_pos (by omega), if_pos (by omega), Int.toNat_natCast]
      rw [ih _ _ k (by rw [size_cut _ _ hb.1]; omega) (by rw [size_cut _ _ hb.1, List.length_append, List.length_singleton]; omega) (by omega)]
      simp [cutN, c]
theorem cutN_enough (x0 b x2 : Int) (hx : GOK x0 b x2) : ∀ (m : Nat) (s : ByteArray) (m' : Nat), s.size ≤ m → s.size ≤ m' → cutN x0 b x2 m s = cutN x0 b x2 m' s := by
  intro m
  induction m with
  | zero =>
    intro s m' h h'
    cases m' with
    | zero => rfl
    | succ m' =>
      simp only [cutN]
      rw [if_pos (by omega)]
  | succ m ih =>
    intro s m' h h'
    cases m' with
    | zero =>
      simp only [cutN]
      rw [if_pos (by omega)]
    | succ m' =>
      simp only [cutN]
      by_cases c : s.size = 0
      · rw [if_pos c, if_pos c]
      · have hb := firstN_bounds hx s
        rw [if_neg c, if_neg c, ih _ m' (by rw [size_cut _ _ hb.1]; omega) (by rw [size_cut _ _ hb.1]; omega)]
/-- The chunks. -/
def cut (x0 b x2 : Int) (s : ByteArray) : List ByteArray := cutN x0 b x2 s.size s
theorem cut_nil (x0 b x2 : Int) (s : ByteArray) (h : s.size = 0) : cut x0 b x2 s = [] := by unfold cut; rw [h]; rfl
theorem cut_cons {x0 b x2 : Int} (hx : GOK x0 b x2) (s : ByteArray) (h : s.size ≠ 0) : cut x0 b x2 s = s.extract 0 (firstN x0 b x2 s) :: cut x0 b x2 (s.extract (firstN x0 b x2 s) s.size) := by
  have hb := firstN_bounds hx s
  unfold cut
  obtain ⟨m, hm⟩ : ∃ m, s.size = m + 1 := ⟨s.size - 1, by omega⟩
  conv => lhs; rw [hm]
  simp only [cutN]
  rw [if_neg h, cutN_enough x0 b x2 hx m _ _ (by rw [size_cut _ _ hb.1]; omega) (Nat.le_refl _)]
theorem chunks_told {x0 b x2 : Int} (hx : GOK x0 b x2) (s : ByteArray) (hs : s.size ≤ 1048576) {k : Nat} (hk : s.size + 16387 ≤ k) : gear_Chunks.f k x0 b x2 s = some (cut x0 b x2 s, 0) := by
  unfold gear_Chunks.f
  rw [bnd (check_ok hx), if_pos rfl, if_neg (by omega), bnd (chunks_l0 hx s.size s [] k (Nat.le_refl _) (by simp; omega) hk)]
  rfl
end Go.Proofs.YtfhipccjnmfefaaDoor.QGear
