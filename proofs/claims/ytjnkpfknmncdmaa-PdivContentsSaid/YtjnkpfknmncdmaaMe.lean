import Derived.Test.YtjnkpfknmncdmaaMd
set_option linter.unusedSimpArgs false
set_option linter.unusedVariables false
namespace Pm

/-! DIGITS TO ANY BASE, AS NUMBERS. -/
def V (b : Int) : List Int → Int
  | [] => 0
  | x :: l => x + b * V b l
def Lim (b : Int) (l : List Int) : Prop := ∀ x ∈ l, 0 ≤ x ∧ x < b
def digF (b : Nat) : Nat → Nat → List Int
  | 0, _ => []
  | f + 1, n => if n = 0 then [] else ((n % b : Nat) : Int) :: digF b f (n / b)
/-- A number's digits. -/
def dig (b n : Nat) : List Int := digF b n n
/-- Without zeros at the end. -/
def cutR : List Int → List Int
  | [] => []
  | x :: l => if cutR l = [] ∧ x = 0 then [] else x :: cutR l

theorem cutR_zero : ∀ l : List Int, cutR (l ++ [0]) = cutR l
  | [] => by simp [cutR]
  | x :: l => by simp [cutR, cutR_zero l]
theorem cutR_ne {x : Int} (h : x ≠ 0) : ∀ l : List Int, cutR (l ++ [x]) = l ++ [x]
  | [] => by
    show cutR [x] = [x]
    rw [cutR, if_neg (fun hh => h hh.2)]; rfl
  | y :: l => by
    have ih := cutR_ne h l
    have hn : ¬ (l ++ [x] = [] ∧ y = 0) := by simp
    show cutR (y :: (l ++ [x])) = y :: (l ++ [x])
    rw [cutR, ih, if_neg hn]
theorem cutR_len : ∀ l : List Int, (cutR l).length ≤ l.length
  | [] => by simp [cutR]
  | x :: l => by
    have := cutR_len l
    simp only [cutR]
    split
    · simp
    · simpa using this

theorem nth_eq {α : Type} [Inhabited α] {l : List α} {i : Nat} (h : i < l.length) : nth l i = l[i] := by unfold nth; rw [List.getElem?_eq_getElem h]; rfl
theorem nth_ge {α : Type} [Inhabited α] {l : List α} {i : Nat} (h : l.length ≤ i) : nth l i = default := by unfold nth; rw [List.getElem?_eq_none h]; rfl
theorem take_succ_nth {α : Type} [Inhabited α] {l : List α} {i : Nat} (h : i < l.length) : l.take (i + 1) = l.take i ++ [nth l i] := by
  rw [nth_eq h, List.take_succ_eq_append_getElem h]
theorem nth_mem {α : Type} [Inhabited α] {l : List α} {i : Nat} (h : i < l.length) : nth l i ∈ l := by rw [nth_eq h]; exact List.getElem_mem h
theorem nth_set_self {α : Type} [Inhabited α] {l : List α} {i : Nat} {x : α} (h : i < l.length) : nth (l.set i x) i = x := by rw [nth_eq (by simpa using h)]; simp
theorem nth_set_ne {α : Type} [Inhabited α] {l : List α} {i j : Nat} {x : α} (h : i ≠ j) : nth (l.set i x) j = nth l j := by unfold nth; rw [List.getElem?_set_ne h]
theorem drop_nth {α : Type} [Inhabited α] {l : List α} {i : Nat} (h : i < l.length) : l.drop i = nth l i :: l.drop (i + 1) := by rw [nth_eq h]; exact List.drop_eq_getElem_cons h
theorem take_set_ge {α : Type} {l : List α} {i k : Nat} {x : α} (h : k ≤ i) : (l.set i x).take k = l.take k := by
  rw [List.take_set]; exact List.set_eq_of_length_le (by simp; omega)

section
variable {b : Int}
theorem Lim.nil : Lim b [] := by simp [Lim]
theorem Lim.cons {x : Int} {l : List Int} : Lim b (x :: l) ↔ (0 ≤ x ∧ x < b) ∧ Lim b l := by simp [Lim]
theorem Lim.append {a c : List Int} : Lim b (a ++ c) ↔ Lim b a ∧ Lim b c := by
  simp only [Lim, List.mem_append]
  constructor
  · intro h; exact ⟨fun x hx => h x (.inl hx), fun x hx => h x (.inr hx)⟩
  · rintro ⟨h1, h2⟩ x (hx | hx)
    · exact h1 x hx
    · exact h2 x hx
theorem Lim.take {l : List Int} (h : Lim b l) (n : Nat) : Lim b (l.take n) := fun x hx => h x (List.mem_of_mem_take hx)
theorem Lim.drop {l : List Int} (h : Lim b l) (n : Nat) : Lim b (l.drop n) := fun x hx => h x (List.mem_of_mem_drop hx)
theorem Lim.nth {l : List Int} (h : Lim b l) {i : Nat} (hi : i < l.length) : 0 ≤ nth l i ∧ nth l i < b := by
  rw [nth_eq hi]; exact h _ (List.getElem_mem hi)
theorem Lim.set {l : List Int} (h : Lim b l) {i : Nat} {x : Int} (hx : 0 ≤ x ∧ x < b) : Lim b (l.set i x) := fun y hy => by
  rcases List.mem_or_eq_of_mem_set hy with h1 | h1
  · exact h y h1
  · rw [h1]; exact hx
theorem Lim.rep (hb : 0 < b) (n : Nat) : Lim b (List.replicate n 0) := fun x hx => by rw [(List.mem_replicate.1 hx).2]; omega

theorem V_nonneg (hb : 0 < b) : ∀ {l : List Int}, Lim b l → 0 ≤ V b l
  | [], _ => by simp [V]
  | x :: l, h => by
    have h1 := V_nonneg hb (Lim.cons.1 h).2; have h2 := (Lim.cons.1 h).1
    have h3 := Int.mul_nonneg (Int.le_of_lt hb) h1
    simp only [V]; omega
theorem V_append : ∀ (a c : List Int), V b (a ++ c) = V b a + b ^ a.length * V b c
  | [], c => by simp [V]
  | x :: a, c => by simp only [List.cons_append, V, V_append a c, List.length_cons, Int.pow_succ]; grind
theorem V_one {x : Int} : V b [x] = x := by simp [V]
theorem V_lt (hb : 0 < b) : ∀ {l : List Int}, Lim b l → V b l < b ^ l.length
  | [], _ => by simp [V]
  | x :: l, h => by
    have h1 := V_lt hb (Lim.cons.1 h).2; have h2 := (Lim.cons.1 h).1
    have h3 : b * (V b l + 1) ≤ b * b ^ l.length := Int.mul_le_mul_of_nonneg_left (by omega) (by omega)
    rw [Int.mul_add] at h3
    simp only [V, List.length_cons, Int.pow_succ, Int.mul_comm _ b]; omega
theorem V_take_succ {l : List Int} {i : Nat} (h : i < l.length) : V b (l.take (i + 1)) = V b (l.take i) + b ^ i * nth l i := by
  rw [take_succ_nth h, V_append, V_one]; simp [Nat.min_eq_left (Nat.le_of_lt h)]
theorem V_take_all {l : List Int} {i : Nat} (h : l.length ≤ i) : V b (l.take i) = V b l := by rw [List.take_of_length_le h]
theorem V_take_set {l : List Int} {i : Nat} {x : Int} (h : i < l.length) : V b ((l.set i x).take (i + 1)) = V b (l.take i) + b ^ i * x := by
  rw [V_take_succ (by simpa using h), take_set_ge (Nat.le_refl _), nth_set_self h]
theorem V_set {l : List Int} {i : Nat} {x : Int} (h : i < l.length) : V b (l.set i x) = V b l + b ^ i * (x - nth l i) := by
  induction l generalizing i with
  | nil => simp at h
  | cons y l ih =>
    cases i with
    | zero => simp only [List.set_cons_zero, V, Int.pow_zero, nth, List.getElem?_cons_zero, Option.getD_some]; omega
    | succ i =>
      have e : nth (y :: l) (i + 1) = nth l i := by simp [nth]
      simp only [List.set_cons_succ, V, e, Int.pow_succ]
      rw [ih (by simpa using h)]
      grind
theorem V_rep : ∀ n : Nat, V b (List.replicate n 0) = 0
  | 0 => rfl
  | n + 1 => by simp [List.replicate_succ, V, V_rep n]
end

section
variable {b : Int}
theorem V_cutR : ∀ l : List Int, V b (cutR l) = V b l
  | [] => rfl
  | x :: l => by
    have ih := V_cutR l
    simp only [cutR]
    split
    · rename_i h
      rw [h.1] at ih
      simp only [V] at ih ⊢
      rw [← ih, h.2]; simp
    · simp [V, ih]
theorem Lim_cutR {l : List Int} (h : Lim b l) : Lim b (cutR l) := by
  induction l with
  | nil => exact h
  | cons x l ih =>
    obtain ⟨h1, h2⟩ := Lim.cons.1 h
    simp only [cutR]
    split
    · exact Lim.nil
    · exact Lim.cons.2 ⟨h1, ih h2⟩
end

section
variable {b : Nat}
theorem digF_eq (hb : 2 ≤ b) : ∀ (f g n : Nat), n ≤ f → n ≤ g → digF b f n = digF b g n
  | 0, g, n, h, _ => by
    have : n = 0 := by omega
    subst this
    cases g <;> simp [digF]
  | f + 1, 0, n, _, h => by
    have : n = 0 := by omega
    subst this
    simp [digF]
  | f + 1, g + 1, n, h1, h2 => by
    simp only [digF]
    by_cases hn : n = 0
    · simp [hn]
    · simp only [hn, if_false]
      have : n / b < n := Nat.div_lt_self (by omega) hb
      rw [digF_eq hb f g _ (by omega) (by omega)]
theorem dig_zero : dig b 0 = [] := rfl
theorem dig_step (hb : 2 ≤ b) {n : Nat} (h : n ≠ 0) : dig b n = ((n % b : Nat) : Int) :: dig b (n / b) := by
  cases n with
  | zero => exact absurd rfl h
  | succ n =>
    simp only [dig]
    rw [digF]
    simp only [h, if_false]
    have : (n + 1) / b < n + 1 := Nat.div_lt_self (by omega) hb
    rw [digF_eq hb n _ _ (by omega) (Nat.le_refl _)]
theorem dig_spec (hb : 2 ≤ b) (n : Nat) : V b (dig b n) = n ∧ Lim b (dig b n) := by
  induction n using Nat.strongRecOn with
  | _ n ih =>
    by_cases h : n = 0
    · subst h; simp [dig_zero, V, Lim]
    · rw [dig_step hb h]
      obtain ⟨h1, h2⟩ := ih (n / b) (Nat.div_lt_self (by omega) hb)
      have h3 := Nat.mod_lt n (show 0 < b by omega)
      have h4 := Nat.mod_add_div n b
      simp only [V, h1, Lim.cons]
      refine ⟨by exact_mod_cast h4, ⟨by omega, by omega⟩, h2⟩
theorem V_dig (hb : 2 ≤ b) (n : Nat) : V b (dig b n) = n := (dig_spec hb n).1
theorem Lim_dig (hb : 2 ≤ b) (n : Nat) : Lim b (dig b n) := (dig_spec hb n).2
theorem dig_eq_nil (hb : 2 ≤ b) {n : Nat} : dig b n = [] ↔ n = 0 := by
  constructor
  · intro h; have := V_dig hb n; rw [h] at this; simp [V] at this; omega
  · rintro rfl; rfl
theorem cutR_dig (hb : 2 ≤ b) : ∀ {l : List Int}, Lim b l → cutR l = dig b (V b l).toNat
  | [], _ => rfl
  | x :: l, h => by
    obtain ⟨h1, h2⟩ := Lim.cons.1 h
    have ih := cutR_dig hb h2
    have h3 := V_nonneg (by omega) h2
    simp only [cutR, ih, dig_eq_nil hb, V]
    obtain ⟨m, hm⟩ := Int.eq_ofNat_of_zero_le h3
    obtain ⟨y, hy⟩ := Int.eq_ofNat_of_zero_le h1.1
    subst hy
    rw [hm]
    have e0 : ((y : Int) + b * m).toNat = y + b * m := by
      rw [show ((y : Int) + b * m) = ((y + b * m : Nat) : Int) by simp]; exact Int.toNat_natCast _
    rw [e0, Int.toNat_natCast]
    by_cases hz : m = 0 ∧ y = 0
    · obtain ⟨rfl, rfl⟩ := hz; simp [dig_zero]
    · rw [if_neg (by omega)]
      have hyb : y < b := by omega
      have e1 : (y + b * m) / b = m := by rw [Nat.add_mul_div_left _ _ (by omega), Nat.div_eq_of_lt hyb]; simp
      have e2 : (y + b * m) % b = y := by rw [Nat.add_mul_mod_self_left, Nat.mod_eq_of_lt hyb]
      have hne : y + b * m ≠ 0 := by
        intro h0
        have h5 : b * m = 0 := by omega
        rcases Nat.mul_eq_zero.1 h5 with h6 | h6 <;> omega
      rw [dig_step hb hne, e1, e2]
theorem dig_len (hb : 2 ≤ b) {n k : Nat} (h : n < b ^ k) : (dig b n).length ≤ k := by
  induction k generalizing n with
  | zero => have : n = 0 := by simpa using h
            subst this; simp [dig_zero]
  | succ k ih =>
    by_cases h0 : n = 0
    · subst h0; simp [dig_zero]
    · rw [dig_step hb h0]
      have : n / b < b ^ k := by
        rw [Nat.pow_succ, Nat.mul_comm] at h
        exact Nat.div_lt_of_lt_mul h
      simpa using ih this
/-- Of digits without a zero on top. -/
theorem dig_V (hb : 2 ≤ b) {l : List Int} (h : Lim b l) (hc : cutR l = l) : dig b (V b l).toNat = l := by rw [← cutR_dig hb h, hc]
theorem cutR_of_dig (hb : 2 ≤ b) (n : Nat) : cutR (dig b n) = dig b n := by rw [cutR_dig hb (Lim_dig hb n), V_dig hb]; simp
end

section
variable {b : Int}
theorem V_split (l : List Int) (i : Nat) (h : i ≤ l.length) : V b l = V b (l.take i) + b ^ i * V b (l.drop i) := by
  conv => lhs; rw [← List.take_append_drop i l]
  rw [V_append]; simp [Nat.min_eq_left h]
theorem V_cons_nth {l : List Int} {i : Nat} (h : i < l.length) : V b l = V b (l.take i) + b ^ i * nth l i + b ^ (i + 1) * V b (l.drop (i + 1)) := by
  rw [V_split l (i + 1) (by omega), V_take_succ h]
/-- The first difference from the top decides. -/
theorem V_lt_of_top (hb : 0 < b) {x y : List Int} (lx : Lim b x) (ly : Lim b y) (hl : x.length = y.length) {i : Nat} (hi : i < x.length) (hd : x.drop (i + 1) = y.drop (i + 1)) (h : nth x i < nth y i) : V b x < V b y := by
  rw [V_cons_nth hi, V_cons_nth (l := y) (i := i) (by omega), hd]
  have h1 := V_lt hb (lx.take i)
  have h2 := V_nonneg hb (ly.take i)
  rw [List.length_take, Nat.min_eq_left (by omega)] at h1
  have h3 : b ^ i * (nth x i + 1) ≤ b ^ i * nth y i := Int.mul_le_mul_of_nonneg_left (by omega) (Int.le_of_lt (Int.pow_pos hb))
  rw [Int.mul_add] at h3
  omega
theorem V_canon_ge (hb : 1 ≤ b) : ∀ {l : List Int}, Lim b l → cutR l = l → l ≠ [] → b ^ (l.length - 1) ≤ V b l
  | [], _, _, h => absurd rfl h
  | [x], hl, hc, _ => by
    have h1 := (Lim.cons.1 hl).1
    have h2 : x ≠ 0 := fun h => by subst h; simp [cutR] at hc
    simp [V]; omega
  | x :: y :: l, hl, hc, _ => by
    have h1 := (Lim.cons.1 hl).1
    have hc2 : cutR (y :: l) = y :: l := by
      rw [cutR] at hc
      split at hc
      · cases hc
      · exact (List.cons.inj hc).2
    have ih := V_canon_ge hb (Lim.cons.1 hl).2 hc2 (by simp)
    simp only [List.length_cons, Nat.add_sub_cancel] at ih ⊢
    rw [Int.pow_succ, V]
    have := Int.mul_le_mul_of_nonneg_left ih (show 0 ≤ b by omega)
    rw [Int.mul_comm b] at this
    omega
theorem cutR_cutR : ∀ l : List Int, cutR (cutR l) = cutR l
  | [] => rfl
  | x :: l => by
    have ih := cutR_cutR l
    rw [cutR]
    split
    · rfl
    · rename_i h
      rw [cutR, ih, if_neg h]
/-- The longer one is greater. -/
theorem V_lt_of_len (hb : 1 ≤ b) {x y : List Int} (lx : Lim b x) (ly : Lim b y) (hy : cutR y = y) (h : x.length < y.length) : V b x < V b y := by
  have h1 := V_lt (by omega) lx
  have h2 := V_canon_ge hb ly hy (by intro h0; rw [h0] at h; simp at h)
  have h3 : b ^ x.length ≤ b ^ (y.length - 1) := by
    obtain ⟨k, hk⟩ : ∃ k, y.length - 1 = x.length + k := ⟨y.length - 1 - x.length, by omega⟩
    rw [hk, Int.pow_add]
    have : 1 ≤ b ^ k := Int.pow_pos (by omega)
    have := Int.mul_le_mul_of_nonneg_left this (show 0 ≤ b ^ x.length from Int.le_of_lt (Int.pow_pos (by omega)))
    simpa using this
  omega
end
/-- -1, 0, 1. -/
def cmp3 (x y : Int) : Int := if x < y then -1 else if y < x then 1 else 0
theorem cmp3_lt {x y : Int} (h : x < y) : cmp3 x y = -1 := by simp [cmp3, h]
theorem cmp3_gt {x y : Int} (h : y < x) : cmp3 x y = 1 := by simp [cmp3, h]; omega
theorem cmp3_eq (x : Int) : cmp3 x x = 0 := by simp [cmp3]
theorem cmp3_neg {x y : Int} : cmp3 x y < 0 ↔ x < y := by simp only [cmp3]; split <;> (try split) <;> omega
theorem cmp3_nonneg {x y : Int} : 0 ≤ cmp3 x y ↔ y ≤ x := by simp only [cmp3]; split <;> (try split) <;> omega
theorem cmp3_zero {x y : Int} : cmp3 x y = 0 ↔ x = y := by simp only [cmp3]; split <;> (try split) <;> omega
theorem cmp3_pos {x y : Int} : 0 < cmp3 x y ↔ y < x := by simp only [cmp3]; split <;> (try split) <;> omega

/-! How many digits. -/
section
variable {b : Nat}
def sz (b : Nat) (x : Int) : Nat := (dig b x.natAbs).length
theorem sz_lt (hb : 2 ≤ b) (x : Int) : x.natAbs < b ^ sz b x := by
  have h1 := V_lt (b := (b : Int)) (by omega) (Lim_dig hb x.natAbs)
  rw [V_dig hb] at h1
  have h2 : ((b : Int) ^ (dig b x.natAbs).length) = ((b ^ (dig b x.natAbs).length : Nat) : Int) := by simp
  rw [h2] at h1
  unfold sz
  omega
theorem sz_le (hb : 2 ≤ b) {x : Int} {k : Nat} (h : x.natAbs < b ^ k) : sz b x ≤ k := dig_len hb h
theorem pow_le' (hb : 2 ≤ b) {m n : Nat} (h : m ≤ n) : b ^ m ≤ b ^ n := Nat.pow_le_pow_right (by omega) h
theorem sz_add (hb : 2 ≤ b) {x y : Int} {k : Nat} (hx : sz b x ≤ k) (hy : sz b y ≤ k) : sz b (x + y) ≤ k + 1 := by
  refine sz_le hb ?_
  have h1 := Nat.lt_of_lt_of_le (sz_lt hb x) (pow_le' hb hx)
  have h2 := Nat.lt_of_lt_of_le (sz_lt hb y) (pow_le' hb hy)
  rw [Nat.pow_succ]
  have h3 : b ^ k * 2 ≤ b ^ k * b := Nat.mul_le_mul_left _ hb
  omega
theorem sz_mul (hb : 2 ≤ b) {x y : Int} {k m : Nat} (hx : sz b x ≤ k) (hy : sz b y ≤ m) : sz b (x * y) ≤ k + m := by
  refine sz_le hb ?_
  have h1 := Nat.lt_of_lt_of_le (sz_lt hb x) (pow_le' hb hx)
  have h2 := Nat.lt_of_lt_of_le (sz_lt hb y) (pow_le' hb hy)
  rw [Int.natAbs_mul, Nat.pow_add]
  exact Nat.mul_lt_mul'' h1 h2
theorem sz_neg (x : Int) : sz b (-x) = sz b x := by simp [sz]
theorem sz_zero : sz b 0 = 0 := by simp [sz, dig_zero]
theorem sz_mono (hb : 2 ≤ b) {x y : Int} (h : x.natAbs ≤ y.natAbs) : sz b x ≤ sz b y := sz_le hb (Nat.lt_of_le_of_lt h (sz_lt hb y))
end
/-- What a row of digits says. -/
theorem sz_V {b : Nat} (hb : 2 ≤ b) {l : List Int} (h : Lim b l) : sz b (V b l) ≤ l.length := by
  refine sz_le hb ?_
  have h1 := V_lt (b := (b : Int)) (by omega) h
  have h2 := V_nonneg (b := (b : Int)) (by omega) h
  have h3 : ((b : Int) ^ l.length) = ((b ^ l.length : Nat) : Int) := by simp
  rw [h3] at h1
  omega
theorem take_all {α : Type} {l : List α} {n : Nat} (h : l.length = n) : l.take n = l := List.take_of_length_le (by omega)
theorem set_take {α : Type} {l m : List α} {i : Nat} {x : α} (h : l.take i = m) (hi : i < l.length) : (l.set i x).take (i + 1) = m ++ [x] := by
  subst h
  rw [List.take_succ_eq_append_getElem (by simpa using hi), take_set_ge (Nat.le_refl _)]
  simp
theorem map_take_succ {α β : Type} [Inhabited α] {l : List α} {f : α → β} {i : Nat} (h : i < l.length) : (l.take (i + 1)).map f = (l.take i).map f ++ [f (nth l i)] := by
  rw [take_succ_nth h]; simp
end Pm


namespace Pm

/-! POLYNOMIALS WITH WHOLE COEFFICIENTS: V t p is p's value at t. -/
theorem nth_map {α β : Type} [Inhabited α] [Inhabited β] {f : α → β} (h : f default = default) (l : List α) (k : Nat) : nth (l.map f) k = f (nth l k) := by
  unfold nth
  cases hk : l[k]? with
  | none => simp [hk, h]
  | some x => simp [hk]
theorem V_map_add {t : Int} {α : Type} (f g : α → Int) : ∀ l : List α, V t (l.map fun k => f k + g k) = V t (l.map f) + V t (l.map g)
  | [] => by simp [V]
  | x :: l => by simp only [List.map_cons, V, V_map_add f g l]; grind
theorem V_map_mul {t : Int} {α : Type} (c : Int) (f : α → Int) : ∀ l : List α, V t (l.map fun k => f k * c) = V t (l.map f) * c
  | [] => by simp [V]
  | x :: l => by simp only [List.map_cons, V, V_map_mul c f l]; grind
theorem range_nth {x : List Int} {n : Nat} (h : x.length ≤ n) : (List.range n).map (nth x) = x ++ List.replicate (n - x.length) 0 := by
  apply List.ext_getElem
  · simp; omega
  · intro i h1 h2
    simp at h1
    by_cases hi : i < x.length
    · simp [List.getElem_append, hi, nth_eq hi]
    · simp [List.getElem_append, hi]; exact nth_ge (by omega)
theorem V_range_nth {t : Int} {x : List Int} {n : Nat} (h : x.length ≤ n) : V t ((List.range n).map (nth x)) = V t x := by
  rw [range_nth h, V_append, V_rep]; simp

theorem uniq_step {N a b : Int} {A B : Int → Int} (h : ∀ t, N < t → a + t * A t = b + t * B t) : a = b ∧ ∀ t, max N 0 < t → A t = B t := by
  have hab : a = b := by
    have h1 := h (max N 0 + (b - a).natAbs + 1) (by omega)
    generalize hT : max N 0 + (b - a).natAbs + 1 = T at *
    have h2 : b - a = T * (A T - B T) := by rw [Int.mul_sub]; omega
    have h3 : T ∣ b - a := ⟨_, h2⟩
    have h4 := Nat.eq_zero_of_dvd_of_lt (Int.natAbs_dvd_natAbs.2 h3) (by omega)
    omega
  refine ⟨hab, fun t ht => ?_⟩
  have h1 := h t (by omega)
  have h2 : t * A t = t * B t := by omega
  exact Int.eq_of_mul_eq_mul_left (by omega) h2
theorem V_uniq_aux : ∀ (x y : List Int) (N : Int), (∀ t, N < t → V t x = V t y) → cutR x = cutR y
  | [], [], _, _ => rfl
  | [], b :: y, N, h => by
    obtain ⟨h1, h2⟩ := uniq_step (N := N) (a := 0) (b := b) (A := fun _ => 0) (B := fun t => V t y) (fun t ht => by have := h t ht; simp only [V] at this; omega)
    have := V_uniq_aux [] y (max N 0) (fun t ht => by have := h2 t ht; simpa [V] using this)
    simp only [cutR] at this ⊢
    rw [← this]; simp [← h1]
  | a :: x, [], N, h => by
    obtain ⟨h1, h2⟩ := uniq_step (N := N) (a := a) (b := 0) (A := fun t => V t x) (B := fun _ => 0) (fun t ht => by have := h t ht; simp only [V] at this; omega)
    have := V_uniq_aux x [] (max N 0) (fun t ht => by have := h2 t ht; simpa [V] using this)
    simp only [cutR] at this ⊢
    rw [this]; simp [h1]
  | a :: x, b :: y, N, h => by
    obtain ⟨h1, h2⟩ := uniq_step (N := N) (a := a) (b := b) (A := fun t => V t x) (B := fun t => V t y) (fun t ht => h t ht)
    have := V_uniq_aux x y (max N 0) h2
    simp only [cutR]
    rw [this, h1]
/-- Two polynomials of one value everywhere are one. -/
theorem V_uniq {x y : List Int} (h : ∀ t, V t x = V t y) : cutR x = cutR y := V_uniq_aux x y 0 fun t _ => h t

def padd (x y : List Int) : List Int := cutR ((List.range (max x.length y.length)).map fun k => nth x k + nth y k)
def psub (x y : List Int) : List Int := cutR ((List.range (max x.length y.length)).map fun k => nth x k - nth y k)
def pneg (x : List Int) : List Int := cutR (x.map fun c => -c)
def pscale (x : List Int) (c : Int) : List Int := cutR (x.map fun a => a * c)
def pmul0 : List Int → List Int → List Int
  | [], _ => []
  | a :: x, y => padd (y.map fun c => c * a) (0 :: pmul0 x y)
def pmul (x y : List Int) : List Int := cutR (pmul0 x y)

theorem V_padd {t : Int} (x y : List Int) : V t (padd x y) = V t x + V t y := by
  rw [padd, V_cutR, V_map_add, V_range_nth (by omega), V_range_nth (by omega)]
theorem V_pneg {t : Int} (x : List Int) : V t (pneg x) = - V t x := by
  have := V_map_mul (t := t) (-1) id x
  rw [pneg, V_cutR]
  simp only [id_eq, Int.mul_neg, Int.mul_one, List.map_id_fun] at this
  exact this
theorem V_pscale {t : Int} (x : List Int) (c : Int) : V t (pscale x c) = V t x * c := by
  have := V_map_mul (t := t) c id x
  rw [pscale, V_cutR]
  simpa using this
theorem V_psub {t : Int} (x y : List Int) : V t (psub x y) = V t x - V t y := by
  rw [psub, V_cutR]
  have h1 := V_map_add (t := t) (fun k => nth x k - nth y k) (nth y) (List.range (max x.length y.length))
  have h2 : (fun k => nth x k - nth y k + nth y k) = nth x := by funext k; omega
  rw [h2, V_range_nth (by omega), V_range_nth (by omega)] at h1
  omega
theorem V_pmul0 {t : Int} : ∀ x y : List Int, V t (pmul0 x y) = V t x * V t y
  | [], y => by simp [pmul0, V]
  | a :: x, y => by
    have := V_map_mul (t := t) a id y
    simp only [id_eq, List.map_id_fun] at this
    rw [pmul0, V_padd, this]
    simp only [V, V_pmul0 x y]
    grind
theorem V_pmul {t : Int} (x y : List Int) : V t (pmul x y) = V t x * V t y := by rw [pmul, V_cutR, V_pmul0]
/-- No zero on top. -/
def Cn (x : List Int) : Prop := cutR x = x
theorem Cn.padd (x y : List Int) : Cn (padd x y) := cutR_cutR _
theorem Cn.psub (x y : List Int) : Cn (psub x y) := cutR_cutR _
theorem Cn.pneg (x : List Int) : Cn (pneg x) := cutR_cutR _
theorem Cn.pscale (x : List Int) (c : Int) : Cn (pscale x c) := cutR_cutR _
theorem Cn.pmul (x y : List Int) : Cn (pmul x y) := cutR_cutR _
theorem Cn.cut (x : List Int) : Cn (cutR x) := cutR_cutR _
theorem Cn.nil : Cn [] := rfl
/-- Normal ones of one value everywhere are one. -/
theorem Cn.ext {x y : List Int} (hx : Cn x) (hy : Cn y) (h : ∀ t, V t x = V t y) : x = y := by rw [← hx, ← hy]; exact V_uniq h

/-- At most n coefficients, each of at most s digits. -/
structure Bd (b s n : Nat) (x : List Int) : Prop where
  len : x.length ≤ n
  sz : ∀ c ∈ x, sz b c ≤ s
theorem cutR_sub : ∀ (x : List Int) (c : Int), c ∈ cutR x → c ∈ x
  | [], c, h => h
  | a :: x, c, h => by
    rw [cutR] at h
    split at h
    · cases h
    · rcases List.mem_cons.1 h with h1 | h1
      · simp [h1]
      · exact List.mem_cons_of_mem _ (cutR_sub x c h1)
section
variable {b s s' n n' : Nat} {x y : List Int}
theorem Bd.mono (h : Bd b s n x) (hs : s ≤ s') (hn : n ≤ n') : Bd b s' n' x := ⟨Nat.le_trans h.len hn, fun c hc => Nat.le_trans (h.sz c hc) hs⟩
theorem Bd.cut (h : Bd b s n x) : Bd b s n (cutR x) := ⟨Nat.le_trans (cutR_len x) h.len, fun c hc => h.sz c (cutR_sub x c hc)⟩
theorem Bd.nth (h : Bd b s n x) (i : Nat) : Pm.sz b (nth x i) ≤ s := by
  by_cases hi : i < x.length
  · exact h.sz _ (nth_mem hi)
  · rw [nth_ge (by omega)]
    show Pm.sz b 0 ≤ s
    rw [sz_zero]; omega
theorem Bd.padd (hb : 2 ≤ b) (hx : Bd b s n x) (hy : Bd b s n y) : Bd b (s + 1) n (padd x y) := by
  refine Bd.cut ⟨by have := hx.len; have := hy.len; simp; omega, fun c hc => ?_⟩
  simp only [List.mem_map] at hc
  obtain ⟨k, _, rfl⟩ := hc
  exact sz_add hb (hx.nth k) (hy.nth k)
theorem Bd.psub (hb : 2 ≤ b) (hx : Bd b s n x) (hy : Bd b s n y) : Bd b (s + 1) n (psub x y) := by
  refine Bd.cut ⟨by have := hx.len; have := hy.len; simp; omega, fun c hc => ?_⟩
  simp only [List.mem_map] at hc
  obtain ⟨k, _, rfl⟩ := hc
  rw [Int.sub_eq_add_neg]
  exact sz_add hb (hx.nth k) (by rw [sz_neg]; exact hy.nth k)
theorem Bd.pneg (hx : Bd b s n x) : Bd b s n (pneg x) := by
  refine Bd.cut ⟨by simpa using hx.len, fun c hc => ?_⟩
  simp only [List.mem_map] at hc
  obtain ⟨k, hk, rfl⟩ := hc
  rw [sz_neg]; exact hx.sz k hk
theorem Bd.pscale (hb : 2 ≤ b) (hx : Bd b s n x) {c : Int} (hc : Pm.sz b c ≤ s') : Bd b (s + s') n (pscale x c) := by
  refine Bd.cut ⟨by simpa using hx.len, fun d hd => ?_⟩
  simp only [List.mem_map] at hd
  obtain ⟨k, hk, rfl⟩ := hd
  exact sz_mul hb (hx.sz k hk) hc
theorem Bd.pmul0 (hb : 2 ≤ b) (hy : Bd b s' n' y) : ∀ {x : List Int} {n : Nat}, Bd b s n x → Bd b (s + s' + n) (n + n') (pmul0 x y)
  | [], n, _ => ⟨by simp [Pm.pmul0], by simp [Pm.pmul0]⟩
  | a :: x, 0, h => by have := h.len; simp at this
  | a :: x, n + 1, h => by
    have h1 : Bd b s n x := ⟨by have := h.len; simpa using this, fun c hc => h.sz c (List.mem_cons_of_mem _ hc)⟩
    have h2 := Bd.pmul0 hb hy h1
    have h3 : Bd b (s + s' + n) (n + 1 + n') (0 :: Pm.pmul0 x y) := ⟨by have := h2.len; simp; omega, fun c hc => by
      rcases List.mem_cons.1 hc with h4 | h4
      · rw [h4, sz_zero]; omega
      · exact h2.sz c h4⟩
    have h4 : Bd b (s + s' + n) (n + 1 + n') (y.map fun c => c * a) := ⟨by have := hy.len; simp; omega, fun d hd => by
      simp only [List.mem_map] at hd
      obtain ⟨k, hk, rfl⟩ := hd
      have := sz_mul hb (hy.sz k hk) (h.sz a (by simp))
      omega⟩
    have := Bd.padd hb h4 h3
    rw [Pm.pmul0]
    exact this.mono (by omega) (by omega)
theorem Bd.pmul (hb : 2 ≤ b) (hx : Bd b s n x) (hy : Bd b s' n' y) : Bd b (s + s' + n) (n + n') (pmul x y) := (Bd.pmul0 hb hy hx).cut
end
end Pm
namespace Pm
/-! Binary digits. -/
def nb (n : Nat) : Nat := if n = 0 then 0 else n.log2 + 1
theorem nb_zero : nb 0 = 0 := rfl
theorem nb_lt {n k : Nat} : nb n ≤ k ↔ n < 2 ^ k := by
  unfold nb
  split
  · rename_i h; subst h; simp; exact Nat.pow_pos (by decide)
  · rename_i h; rw [← Nat.log2_lt h]; omega
theorem nb_shift {n k : Nat} (h : n / 2 ^ k ≠ 0) : nb n = k + nb (n / 2 ^ k) := by
  apply Nat.le_antisymm
  · rw [nb_lt, Nat.pow_add]
    have h1 : n / 2 ^ k < 2 ^ nb (n / 2 ^ k) := nb_lt.1 (Nat.le_refl _)
    have h2 := Nat.lt_mul_of_div_lt h1 (Nat.pow_pos (by decide))
    rw [Nat.mul_comm] at h2
    exact h2
  · have h3 : ∀ m, nb n ≤ m → k + nb (n / 2 ^ k) ≤ m := by
      intro m hm
      rw [nb_lt] at hm
      have hkm : k ≤ m := by
        rcases Nat.lt_or_ge m k with h4 | h4
        · exfalso; apply h; apply Nat.div_eq_of_lt; exact Nat.lt_of_lt_of_le hm (Nat.pow_le_pow_right (by decide) (by omega))
        · exact h4
      have h5 : nb (n / 2 ^ k) ≤ m - k := by
        rw [nb_lt]
        apply Nat.div_lt_of_lt_mul
        rw [← Nat.pow_add, show k + (m - k) = m by omega]; exact hm
      omega
    exact h3 _ (Nat.le_refl _)
end Pm
namespace Pm
theorem erase_take {α : Type} [Inhabited α] {m : List α} {r i : Nat} (hr : r < m.length) : (m.take (r + 1)).eraseIdx i = if r = i then (m.take r).eraseIdx i else (m.take r).eraseIdx i ++ [nth m r] := by
  rw [take_succ_nth hr]
  have hl : (m.take r).length = r := by simp; omega
  generalize m.take r = l at *
  split
  · rename_i h
    subst h
    rw [List.eraseIdx_append_of_length_le (by omega), List.eraseIdx_of_length_le (l := l) (by omega)]
    simp [hl]
  · rename_i h
    rcases Nat.lt_or_ge i r with h1 | h1
    · rw [List.eraseIdx_append_of_lt_length (by omega)]
    · have h2 : (l ++ [nth m r]).length ≤ i := by simp; omega
      rw [List.eraseIdx_of_length_le h2, List.eraseIdx_of_length_le (l := l) (by omega)]
end Pm

