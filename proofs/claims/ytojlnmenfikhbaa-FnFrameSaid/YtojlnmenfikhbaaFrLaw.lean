/- Numbers and frames read back: plain laws. -/
import Derived.Test.YtojlnmenfikhbaaReadF
namespace Go.Proofs.Ytojlnmenfikhbaa

theorem varB_pos (f u : Nat) : 0 < (varB f u).length := by
  cases f with
  | zero => simp [varB]
  | succ f => unfold varB; split <;> simp

theorem getR_full (p : Nat) (post : List UInt8) : ∀ F k m u f (A : List UInt8), A.length = p + k → u < 128 ^ F → 0 < F → F ≤ f + 1 → (0 < k → 0 < u) → -1000000000 ≤ unzig (m + u * 128 ^ k) → unzig (m + u * 128 ^ k) ≤ 1000000000 →
    getR (A ++ varB f u ++ post) p F k m = some (unzig (m + u * 128 ^ k), (p : Int) + k + (varB f u).length) := by
  intro F
  induction F with
  | zero => intro k m u f A hA hu hF; omega
  | succ F ih =>
    intro k m u f A hA hu _ hf hk h1 h2
    cases f with
    | zero =>
      have : F = 0 := by omega
      subst this
      have hu' : u < 128 := by simpa using hu
      have hlen : p + k < (A ++ varB 0 u ++ post).length := by simp [varB]; omega
      have hget : ((A ++ varB 0 u ++ post)[p + k]'hlen).toNat = u := by simp [varB, hA]; omega
      rw [getR_step _ p 0 k m _ u hlen hget rfl, if_neg (by omega), Nat.mod_eq_of_lt hu', if_neg (by intro h; omega)]
      simp [varB]
    | succ f =>
      by_cases hc : 127 < u
      · have hv : varB (f + 1) u = UInt8.ofNat (128 + u % 128) :: varB f (u / 128) := by rw [varB, if_pos hc]
        rw [hv]
        have hm : u % 128 < 128 := Nat.mod_lt _ (by decide)
        have hlen : p + k < (A ++ (UInt8.ofNat (128 + u % 128) :: varB f (u / 128)) ++ post).length := by simp; omega
        have hget : ((A ++ (UInt8.ofNat (128 + u % 128) :: varB f (u / 128)) ++ post)[p + k]'hlen).toNat = 128 + u % 128 := by simp [← hA]; omega
        rw [getR_step _ p F k m (m + u % 128 * 128 ^ k) (128 + u % 128) hlen hget (by rw [show (128 + u % 128) % 128 = u % 128 by omega]), if_pos (by omega)]
        have hM : m + u % 128 * 128 ^ k + u / 128 * 128 ^ (k + 1) = m + u * 128 ^ k := by
          rw [Nat.pow_succ, Nat.mul_comm (128 ^ k) 128, ← Nat.mul_assoc, Nat.add_assoc, ← Nat.add_mul]
          congr 2; omega
        have := ih (k + 1) (m + u % 128 * 128 ^ k) (u / 128) f (A ++ [UInt8.ofNat (128 + u % 128)]) (by simp; omega) (by rw [Nat.pow_succ] at hu; omega) (by cases F with | zero => simp at hu; omega | succ F => omega) (by omega) (by omega) (by rw [hM]; exact h1) (by rw [hM]; exact h2)
        rw [hM] at this
        simp only [List.append_assoc, List.cons_append, List.nil_append] at this ⊢
        rw [this]
        simp
        omega
      · have hv : varB (f + 1) u = [UInt8.ofNat u] := by rw [varB, if_neg hc]
        rw [hv]
        have hlen : p + k < (A ++ [UInt8.ofNat u] ++ post).length := by simp; omega
        have hget : ((A ++ [UInt8.ofNat u] ++ post)[p + k]'hlen).toNat = u := by simp [← hA]; omega
        rw [getR_step _ p F k m _ u hlen hget rfl, if_neg (by omega), Nat.mod_eq_of_lt (by omega : u < 128), if_neg (by intro h; omega)]
        simp

theorem getR_cut (p : Nat) : ∀ F k m u f (A : List UInt8) j, A.length = p + k → j < (varB f u).length → getR (A ++ (varB f u).take j) p F k m = none := by
  intro F
  induction F with
  | zero => intro k m u f A j _ _; rfl
  | succ F ih =>
    intro k m u f A j hA hj
    cases j with
    | zero => exact getR_stop _ _ _ _ _ (by simp; omega)
    | succ j =>
      cases f with
      | zero => simp [varB] at hj
      | succ f =>
        by_cases hc : 127 < u
        · have hv : varB (f + 1) u = UInt8.ofNat (128 + u % 128) :: varB f (u / 128) := by rw [varB, if_pos hc]
          rw [hv] at hj ⊢
          have hm : u % 128 < 128 := Nat.mod_lt _ (by decide)
          rw [List.take_succ_cons]
          have hlen : p + k < (A ++ (UInt8.ofNat (128 + u % 128) :: (varB f (u / 128)).take j)).length := by simp; omega
          have hget : ((A ++ (UInt8.ofNat (128 + u % 128) :: (varB f (u / 128)).take j))[p + k]'hlen).toNat = 128 + u % 128 := by simp [← hA]; omega
          rw [getR_step _ p F k m (m + u % 128 * 128 ^ k) (128 + u % 128) hlen hget (by rw [show (128 + u % 128) % 128 = u % 128 by omega]), if_pos (by omega)]
          have := ih (k + 1) (m + u % 128 * 128 ^ k) (u / 128) f (A ++ [UInt8.ofNat (128 + u % 128)]) j (by simp; omega) (by simpa using hj)
          simpa using this
        · have hv : varB (f + 1) u = [UInt8.ofNat u] := by rw [varB, if_neg hc]
          rw [hv] at hj
          simp at hj

theorem unzig_zig (n : Int) (h1 : -1000000000 ≤ n) (h2 : n ≤ 1000000000) : unzig (zig n) = n := by
  unfold zig clampN unzig
  split <;> split <;> omega
theorem zig_unzig (u : Nat) (h1 : -1000000000 ≤ unzig u) (h2 : unzig u ≤ 1000000000) : zig (unzig u) = u := by
  unfold zig clampN unzig at *
  split <;> split <;> split at h1 <;> split at h2 <;> omega

theorem getN_full (A post : List UInt8) (n : Int) (h1 : -1000000000 ≤ n) (h2 : n ≤ 1000000000) : getN (A ++ numB n ++ post) A.length = some (n, (A.length : Int) + (numB n).length) := by
  unfold getN
  rw [if_neg (by omega)]
  have hu := unzig_zig n h1 h2
  have := getR_full A.length post 5 0 0 (zig n) 5 A rfl (by have := zig_lt n; omega) (by decide) (by decide) (by simp) (by simpa [hu] using h1) (by simpa [hu] using h2)
  simp only [Nat.pow_zero, Nat.mul_one, Nat.zero_add, hu] at this
  simpa [numB] using this
theorem getN_cut (A : List UInt8) (n : Int) (j : Nat) (hj : j < (numB n).length) : getN (A ++ (numB n).take j) A.length = none := by
  unfold getN
  rw [if_neg (by omega)]
  exact getR_cut A.length 5 0 0 (zig n) 5 A j rfl hj

theorem part_mid (L A X post : List UInt8) (i m : Nat) (hL : L = A ++ X ++ post) (hi : i = A.length) (hm : m = X.length) : part L i m = X := by
  subst hi hm hL; simp [part]

/-- A frame that stands behind A and ahead of post is read back. -/
theorem getF_full (A f post : List UInt8) (hf : f.length ≤ 4000) : getF (A ++ (numB f.length ++ f ++ crc4 f) ++ post) A.length = some (f, (((A ++ (numB f.length ++ f ++ crc4 f)).length : Nat) : Int)) := by
  have hN := getN_full A (f ++ crc4 f ++ post) f.length (by omega) (by omega)
  have e : A ++ numB f.length ++ (f ++ crc4 f ++ post) = A ++ (numB f.length ++ f ++ crc4 f) ++ post := by simp
  rw [e] at hN
  have hc : (crc4 f).length = 4 := rfl
  have p1 : part (A ++ (numB f.length ++ f ++ crc4 f) ++ post) (A.length + (numB f.length).length) f.length = f := part_mid _ (A ++ numB f.length) f (crc4 f ++ post) _ _ (by simp) (by simp) rfl
  have p2 : part (A ++ (numB f.length ++ f ++ crc4 f) ++ post) (A.length + (numB f.length).length + f.length) 4 = crc4 f := part_mid _ (A ++ numB f.length ++ f) (crc4 f) post _ _ (by simp) (by simp; omega) rfl
  unfold getF
  rw [hN]
  have t1 : ((A.length : Int) + (numB (f.length : Int)).length).toNat = A.length + (numB (f.length : Int)).length := by omega
  have t2 : ((f.length : Int)).toNat = f.length := by omega
  simp only [t1, t2, p1, p2]
  rw [if_neg (by simp [hc]; omega), if_pos trivial]
  simp [hc]; omega

/-- Of a frame that is cut, nothing comes back. -/
theorem getF_cut (A f : List UInt8) (hf : f.length ≤ 4000) (j : Nat) (hj : j < (numB f.length ++ f ++ crc4 f).length) : getF (A ++ (numB f.length ++ f ++ crc4 f).take j) A.length = none := by
  have hc : (crc4 f).length = 4 := rfl
  unfold getF
  by_cases h : j < (numB f.length).length
  · have e : (numB f.length ++ f ++ crc4 f).take j = (numB f.length).take j := by
      rw [List.append_assoc, List.take_append_of_le_length (by omega)]
    rw [e, getN_cut A f.length j h]
  · have e : A ++ (numB f.length ++ f ++ crc4 f).take j = A ++ numB f.length ++ (f ++ crc4 f).take (j - (numB f.length).length) := by
      rw [List.append_assoc (numB _), List.take_append, List.take_of_length_le (by omega), List.append_assoc]
    rw [e, getN_full A _ f.length (by omega) (by omega)]
    simp only
    rw [if_pos]
    right; right
    simp at hj ⊢
    omega

theorem crcBit_inj (x y : Nat) (hx : x < 4294967296) (hy : y < 4294967296) (h : crcBit x = crcBit y) : x = y := by
  have key : ∀ a b, a < 2147483648 → b < 2147483648 → a ^^^ 2197175160 ≠ b := by
    intro a b ha hb e
    have h1 : a ^^^ b = 2197175160 := by rw [← e, ← Nat.xor_assoc, Nat.xor_self, Nat.zero_xor]
    have h2 : a ^^^ b < 2 ^ 31 := Nat.xor_lt_two_pow ha hb
    omega
  unfold crcBit at h
  split at h <;> split at h
  · have h2 : x / 2 = y / 2 := by
      have := congrArg (· ^^^ 2197175160) h
      simpa [Nat.xor_assoc] using this
    omega
  · exact absurd h (key _ _ (by omega) (by omega))
  · exact absurd h.symm (key _ _ (by omega) (by omega))
  · omega
theorem crcBits_inj (n x y : Nat) (hx : x < 4294967296) (hy : y < 4294967296) (h : crcBits n x = crcBits n y) : x = y := by
  induction n with
  | zero => exact h
  | succ n ih => exact ih (crcBit_inj _ _ (crcBits_lt x hx n) (crcBits_lt y hy n) h)
theorem xor_cancel_left (a b c : Nat) (h : a ^^^ b = a ^^^ c) : b = c := by
  have := congrArg (a ^^^ ·) h
  simpa [← Nat.xor_assoc] using this
theorem crcByte_lt (x : Nat) (hx : x < 4294967296) (c : UInt8) : crcByte x c < 4294967296 := crcBits_lt _ (Nat.xor_lt_two_pow (n := 32) hx (by have := c.toNat_lt; omega)) 8
theorem crcByte_inj (x y : Nat) (c : UInt8) (hx : x < 4294967296) (hy : y < 4294967296) (h : crcByte x c = crcByte y c) : x = y := by
  have hc := c.toNat_lt
  have := crcBits_inj 8 _ _ (Nat.xor_lt_two_pow (n := 32) hx (by omega)) (Nat.xor_lt_two_pow (n := 32) hy (by omega)) h
  rw [Nat.xor_comm x, Nat.xor_comm y] at this
  exact xor_cancel_left _ _ _ this
theorem crcByte_inj2 (x : Nat) (c d : UInt8) (hx : x < 4294967296) (h : crcByte x c = crcByte x d) : c = d := by
  have hc := c.toNat_lt
  have hd := d.toNat_lt
  have := crcBits_inj 8 _ _ (Nat.xor_lt_two_pow (n := 32) hx (by omega)) (Nat.xor_lt_two_pow (n := 32) hx (by omega)) h
  exact UInt8.toNat_inj.mp (xor_cancel_left _ _ _ this)
theorem foldl_lt (l : List UInt8) : ∀ x, x < 4294967296 → l.foldl crcByte x < 4294967296 := by
  induction l with
  | nil => intro x h; exact h
  | cons c l ih => intro x h; exact ih _ (crcByte_lt x h c)
theorem foldl_inj (l : List UInt8) : ∀ x y, x < 4294967296 → y < 4294967296 → l.foldl crcByte x = l.foldl crcByte y → x = y := by
  induction l with
  | nil => intro x y _ _ h; exact h
  | cons c l ih => intro x y hx hy h; exact crcByte_inj x y c hx hy (ih _ _ (crcByte_lt x hx c) (crcByte_lt y hy c) h)
/-- With one byte turned the sum is another. -/
theorem crcN_turned (a b : List UInt8) (c d : UInt8) (h : crcN (a ++ c :: b) = crcN (a ++ d :: b)) : c = d := by
  unfold crcN at h
  rw [Nat.xor_comm _ 4294967295, Nat.xor_comm _ 4294967295] at h
  have h := xor_cancel_left _ _ _ h
  unfold crcFold at h
  rw [List.foldl_append, List.foldl_append, List.foldl_cons, List.foldl_cons] at h
  have hx : a.foldl crcByte 4294967295 < 4294967296 := foldl_lt a _ (by decide)
  exact crcByte_inj2 _ c d hx (foldl_inj b _ _ (crcByte_lt _ hx c) (crcByte_lt _ hx d) h)
theorem crc4_inj (f g : List UInt8) (h : crc4 f = crc4 g) : crcN f = crcN g := by
  have h1 := crcN_lt f
  have h2 := crcN_lt g
  unfold crc4 at h
  simp only [List.cons.injEq, and_true] at h
  obtain ⟨e1, e2, e3, e4⟩ := h
  have e1 := congrArg UInt8.toNat e1
  have e2 := congrArg UInt8.toNat e2
  have e3 := congrArg UInt8.toNat e3
  have e4 := congrArg UInt8.toNat e4
  simp only [UInt8.toNat_ofNat'] at e1 e2 e3 e4
  omega
/-- With one byte of the body turned nothing comes back. -/
theorem getF_turned (A a b post : List UInt8) (c d : UInt8) (hcd : c ≠ d) (hf : (a ++ c :: b).length ≤ 4000) : getF (A ++ (numB (a ++ c :: b).length ++ (a ++ d :: b) ++ crc4 (a ++ c :: b)) ++ post) A.length = none := by
  have hl : (a ++ d :: b).length = (a ++ c :: b).length := by simp
  generalize hn : (a ++ c :: b).length = n at *
  have hN := getN_full A ((a ++ d :: b) ++ crc4 (a ++ c :: b) ++ post) n (by omega) (by omega)
  have e : A ++ numB n ++ ((a ++ d :: b) ++ crc4 (a ++ c :: b) ++ post) = A ++ (numB n ++ (a ++ d :: b) ++ crc4 (a ++ c :: b)) ++ post := by simp
  rw [e] at hN
  have p1 : part (A ++ (numB n ++ (a ++ d :: b) ++ crc4 (a ++ c :: b)) ++ post) (A.length + (numB n).length) n = a ++ d :: b := part_mid _ (A ++ numB n) (a ++ d :: b) (crc4 (a ++ c :: b) ++ post) _ _ (by simp) (by simp) hl.symm
  have p2 : part (A ++ (numB n ++ (a ++ d :: b) ++ crc4 (a ++ c :: b)) ++ post) (A.length + (numB n).length + n) 4 = crc4 (a ++ c :: b) := part_mid _ (A ++ numB n ++ (a ++ d :: b)) (crc4 (a ++ c :: b)) post _ _ (by simp) (by rw [List.length_append, List.length_append, hl]) rfl
  unfold getF
  rw [hN]
  have t1 : ((A.length : Int) + (numB (n : Int)).length).toNat = A.length + (numB (n : Int)).length := by omega
  have t2 : ((n : Int)).toNat = n := by omega
  simp only [t1, t2, p1, p2]
  split
  · rfl
  · rw [if_neg]
    intro h
    exact hcd (crcN_turned a b c d (crc4_inj _ _ h))

def frB1 (f : List UInt8) : List UInt8 := numB f.length ++ f ++ crc4 f
def cat : List FrameD → List UInt8
  | [] => []
  | f :: L => frB1 f.B ++ cat L
theorem frB1_len (f : List UInt8) : 4 < (frB1 f).length := by have := varB_pos 5 (zig f.length); simp [frB1, numB, crc4]; omega
theorem frameB_one (b f : List UInt8) (hf : f.length ≤ 4000) : frameB b f = b ++ frB1 f := by unfold frameB frB1; rw [if_neg (by omega)]; simp
theorem cat_snoc (f : FrameD) : ∀ L : List FrameD, cat (L ++ [f]) = cat L ++ frB1 f.B := by
  intro L
  induction L with
  | nil => simp [cat]
  | cons x L ih => simp [cat, ih]
theorem readR_cat : ∀ (L : List FrameD), (∀ f ∈ L, f.B.length ≤ 4000) → ∀ (A : List UInt8) (F : Nat), (cat L).length < F → readR (A ++ cat L) F A.length = (L, (((A ++ cat L).length : Nat) : Int)) := by
  intro L
  induction L with
  | nil =>
    intro _ A F hF
    obtain ⟨F, rfl⟩ : ∃ g, F = g + 1 := ⟨F - 1, by omega⟩
    rw [readR_none _ _ _ (getF_end _ _ (by simp [cat]))]
    simp [cat]
  | cons f L ih =>
    intro hL A F hF
    obtain ⟨F, rfl⟩ : ∃ g, F = g + 1 := ⟨F - 1, by omega⟩
    have h5 := frB1_len f.B
    have hg := getF_full A f.B (cat L) (hL f (by simp))
    have hl : (cat (f :: L)).length = (frB1 f.B).length + (cat L).length := by simp [cat]
    have e : A ++ cat (f :: L) = A ++ (numB f.B.length ++ f.B ++ crc4 f.B) ++ cat L := by simp [cat, frB1]
    have := ih (fun g hg => hL g (by simp [hg])) (A ++ frB1 f.B) F (by omega)
    rw [e, readR_some _ _ _ _ _ hg]
    change readR (A ++ (numB f.B.length ++ f.B ++ crc4 f.B) ++ cat L) F ((A ++ (numB f.B.length ++ f.B ++ crc4 f.B)).length : Nat) = _ at this
    rw [this]
    rfl
theorem readR_cut : ∀ (L : List FrameD), (∀ f ∈ L, f.B.length ≤ 4000) → ∀ (A : List UInt8) (j F : Nat), j ≤ (cat L).length → j < F →
    ∃ k, k ≤ L.length ∧ readR (A ++ (cat L).take j) F A.length = (L.take k, (((A ++ cat (L.take k)).length : Nat) : Int)) ∧ (k < L.length → j < (cat (L.take (k + 1))).length) := by
  intro L
  induction L with
  | nil =>
    intro _ A j F hj hF
    obtain ⟨F, rfl⟩ : ∃ g, F = g + 1 := ⟨F - 1, by omega⟩
    refine ⟨0, by simp, ?_, by simp⟩
    rw [readR_none _ _ _ (getF_end _ _ (by simp [cat]))]
    simp [cat]
  | cons f L ih =>
    intro hL A j F hj hF
    obtain ⟨F, rfl⟩ : ∃ g, F = g + 1 := ⟨F - 1, by omega⟩
    have h5 := frB1_len f.B
    have hl : (cat (f :: L)).length = (frB1 f.B).length + (cat L).length := by simp [cat]
    have e0 : cat (f :: L) = frB1 f.B ++ cat L := rfl
    by_cases hlt : j < (frB1 f.B).length
    · refine ⟨0, by simp, ?_, fun _ => by simpa [cat] using hlt⟩
      have e : (cat (f :: L)).take j = (frB1 f.B).take j := by rw [e0, List.take_append_of_le_length (by omega)]
      have hn : getF (A ++ (frB1 f.B).take j) A.length = none := getF_cut A f.B (hL f (by simp)) j hlt
      rw [e, readR_none _ _ _ hn]
      simp [cat]
    · have e : A ++ (cat (f :: L)).take j = A ++ (numB f.B.length ++ f.B ++ crc4 f.B) ++ (cat L).take (j - (frB1 f.B).length) := by
        rw [e0, List.take_append, List.take_of_length_le (by omega), ← List.append_assoc]; rfl
      obtain ⟨k, k1, k2, k3⟩ := ih (fun g hg => hL g (by simp [hg])) (A ++ frB1 f.B) (j - (frB1 f.B).length) F (by omega) (by omega)
      refine ⟨k + 1, by simpa using k1, ?_, ?_⟩
      · rw [e, readR_some _ _ _ _ _ (getF_full A f.B _ (hL f (by simp)))]
        change readR (A ++ (numB f.B.length ++ f.B ++ crc4 f.B) ++ (cat L).take (j - (frB1 f.B).length)) F ((A ++ (numB f.B.length ++ f.B ++ crc4 f.B)).length : Nat) = _ at k2
        rw [k2]
        simp [cat]
      · intro h
        have := k3 (by simpa using h)
        simp only [List.take_succ_cons, cat, List.length_append] at this ⊢
        omega
theorem readF_cat (L : List FrameD) (hL : ∀ f ∈ L, f.B.length ≤ 4000) : readF (cat L) = (L, (((cat L).length : Nat) : Int)) := by
  have := readR_cat L hL [] ((cat L).length + 1) (by omega)
  simpa [readF] using this
theorem readF_cut (L : List FrameD) (hL : ∀ f ∈ L, f.B.length ≤ 4000) (j : Nat) (hj : j ≤ (cat L).length) :
    ∃ k, k ≤ L.length ∧ readF ((cat L).take j) = (L.take k, (((cat (L.take k)).length : Nat) : Int)) ∧ (k < L.length → j < (cat (L.take (k + 1))).length) := by
  have := readR_cut L hL [] j (j + 1) hj (by omega)
  have e : ((cat L).take j).length = j := by simp; omega
  simpa [readF, e] using this
end Go.Proofs.Ytojlnmenfikhbaa
