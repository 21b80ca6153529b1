import Derived.Test.YtdiladmkbpnhoaaGreatMd
set_option linter.unusedSimpArgs false
set_option linter.unusedVariables false
namespace Pm
def V (b : Int) : List Int → Int
 | [] => 0
 | x :: l => x + b * V b l
def Lim (b : Int) (l : List Int) : Prop := ∀ x ∈ l, 0 ≤ x ∧ x < b
def digF (b : Nat) : Nat → Nat → List Int
 | 0, _ => []
 | f + 1, n => if n = 0 then [] else ((n % b : Nat) : Int) :: digF b f (n / b)
def dig (b n : Nat) : List Int := digF b n n
def cutR : List Int → List Int
 | [] => []
 | x :: l => if cutR l = [] ∧ x = 0 then [] else x :: cutR l
theorem cutR_zero : ∀ l : List Int, cutR (l ++ [0]) = cutR l
 | [] => by simp [cutR]
 | x :: l => by simp [cutR, cutR_zero l]
theorem cutR_ne {x : Int} (h : x ≠ 0) : ∀ l : List Int, cutR (l ++ [x]) = l ++ [x]
 | [] => by
  show cutR [x] = [x]
  rw [cutR, if_neg (fun hh => h hh.2)]; rfl
 | y :: l => by
  have ih := cutR_ne h l
  have hn : ¬ (l ++ [x] = [] ∧ y = 0) := by simp
  show cutR (y :: (l ++ [x])) = y :: (l ++ [x])
  rw [cutR, ih, if_neg hn]
theorem cutR_len : ∀ l : List Int, (cutR l).length ≤ l.length
 | [] => by simp [cutR]
 | x :: l => by
  have := cutR_len l
  simp only [cutR]
  split
  ·simp
  ·simpa using this
theorem nth_eq {α : Type} [Inhabited α] {l : List α} {i : Nat} (h : i < l.length) : nth l i = l[i] := by unfold nth; rw [List.getElem?_eq_getElem h]; rfl
theorem nth_ge {α : Type} [Inhabited α] {l : List α} {i : Nat} (h : l.length ≤ i) : nth l i = default := by unfold nth; rw [List.getElem?_eq_none h]; rfl
theorem take_succ_nth {α : Type} [Inhabited α] {l : List α} {i : Nat} (h : i < l.length) : l.take (i + 1) = l.take i ++ [nth l i] := by
 rw [nth_eq h, List.take_succ_eq_append_getElem h]
theorem nth_mem {α : Type} [Inhabited α] {l : List α} {i : Nat} (h : i < l.length) : nth l i ∈ l := by rw [nth_eq h]; exact List.getElem_mem h
theorem nth_set_self {α : Type} [Inhabited α] {l : List α} {i : Nat} {x : α} (h : i < l.length) : nth (l.set i x) i = x := by rw [nth_eq (by simpa using h)]; simp
theorem nth_set_ne {α : Type} [Inhabited α] {l : List α} {i j : Nat} {x : α} (h : i ≠ j) : nth (l.set i x) j = nth l j := by unfold nth; rw [List.getElem?_set_ne h]
theorem drop_nth {α : Type} [Inhabited α] {l : List α} {i : Nat} (h : i < l.length) : l.drop i = nth l i :: l.drop (i + 1) := by rw [nth_eq h]; exact List.drop_eq_getElem_cons h
theorem take_set_ge {α : Type} {l : List α} {i k : Nat} {x : α} (h : k ≤ i) : (l.set i x).take k = l.take k := by
 rw [List.take_set]; exact List.set_eq_of_length_le (by simp; omega)
section
variable {b : Int}
theorem Lim.nil : Lim b [] := by simp [Lim]
theorem Lim.cons {x : Int} {l : List Int} : Lim b (x :: l) ↔ (0 ≤ x ∧ x < b) ∧ Lim b l := by simp [Lim]
theorem Lim.append {a c : List Int} : Lim b (a ++ c) ↔ Lim b a ∧ Lim b c := by
 simp only [Lim, List.mem_append]
 constructor
 ·intro h; exact ⟨fun x hx => h x (.inl hx), fun x hx => h x (.inr hx)⟩
 ·rintro ⟨h1, h2⟩ x (hx | hx)
  ·exact h1 x hx
  ·exact h2 x hx
theorem Lim.take {l : List Int} (h : Lim b l) (n : Nat) : Lim b (l.take n) := fun x hx => h x (List.mem_of_mem_take hx)
theorem Lim.drop {l : List Int} (h : Lim b l) (n : Nat) : Lim b (l.drop n) := fun x hx => h x (List.mem_of_mem_drop hx)
theorem Lim.nth {l : List Int} (h : Lim b l) {i : Nat} (hi : i < l.length) : 0 ≤ nth l i ∧ nth l i < b := by
 rw [nth_eq hi]; exact h _ (List.getElem_mem hi)
theorem Lim.set {l : List Int} (h : Lim b l) {i : Nat} {x : Int} (hx : 0 ≤ x ∧ x < b) : Lim b (l.set i x) := fun y hy => by
 rcases List.mem_or_eq_of_mem_set hy with h1 | h1
 ·exact h y h1
 ·rw [h1]; exact hx
theorem Lim.rep (hb : 0 < b) (n : Nat) : Lim b (List.replicate n 0) := fun x hx => by rw [(List.mem_replicate.1 hx).2]; omega
theorem V_nonneg (hb : 0 < b) : ∀ {l : List Int}, Lim b l → 0 ≤ V b l
 | [], _ => by simp [V]
 | x :: l, h => by
  have h1 := V_nonneg hb (Lim.cons.1 h).2; have h2 := (Lim.cons.1 h).1
  have h3 := Int.mul_nonneg (Int.le_of_lt hb) h1
  simp only [V]; omega
theorem V_append : ∀ (a c : List Int), V b (a ++ c) = V b a + b ^ a.length * V b c
 | [], c => by simp [V]
 | x :: a, c => by simp only [List.cons_append, V, V_append a c, List.length_cons, Int.pow_succ]; grind
theorem V_one {x : Int} : V b [x] = x := by simp [V]
theorem V_lt (hb : 0 < b) : ∀ {l : List Int}, Lim b l → V b l < b ^ l.length
 | [], _ => by simp [V]
 | x :: l, h => by
  have h1 := V_lt hb (Lim.cons.1 h).2; have h2 := (Lim.cons.1 h).1
  have h3 : b * (V b l + 1) ≤ b * b ^ l.length := Int.mul_le_mul_of_nonneg_left (by omega) (by omega)
  rw [Int.mul_add] at h3
  simp only [V, List.length_cons, Int.pow_succ, Int.mul_comm _ b]; omega
theorem V_take_succ {l : List Int} {i : Nat} (h : i < l.length) : V b (l.take (i + 1)) = V b (l.take i) + b ^ i * nth l i := by
 rw [take_succ_nth h, V_append, V_one]; simp [Nat.min_eq_left (Nat.le_of_lt h)]
theorem V_take_all {l : List Int} {i : Nat} (h : l.length ≤ i) : V b (l.take i) = V b l := by rw [List.take_of_length_le h]
theorem V_take_set {l : List Int} {i : Nat} {x : Int} (h : i < l.length) : V b ((l.set i x).take (i + 1)) = V b (l.take i) + b ^ i * x := by
 rw [V_take_succ (by simpa using h), take_set_ge (Nat.le_refl _), nth_set_self h]
theorem V_set {l : List Int} {i : Nat} {x : Int} (h : i < l.length) : V b (l.set i x) = V b l + b ^ i * (x - nth l i) := by
 induction l generalizing i with
 | nil => simp at h
 | cons y l ih =>
  cases i with
  | zero => simp only [List.set_cons_zero, V, Int.pow_zero, nth, List.getElem?_cons_zero, Option.getD_some]; omega
  | succ i =>
   have e : nth (y :: l) (i + 1) = nth l i := by simp [nth]
   simp only [List.set_cons_succ, V, e, Int.pow_succ]
   rw [ih (by simpa using h)]
   grind
theorem V_rep : ∀ n : Nat, V b (List.replicate n 0) = 0
 | 0 => rfl
 | n + 1 => by simp [List.replicate_succ, V, V_rep n]
end
section
variable {b : Int}
theorem V_cutR : ∀ l : List Int, V b (cutR l) = V b l
 | [] => rfl
 | x :: l => by
  have ih := V_cutR l
  simp only [cutR]
  split
  ·rename_i h
   rw [h.1] at ih
   simp only [V] at ih ⊢
   rw [← ih, h.2]; simp
  ·simp [V, ih]
theorem Lim_cutR {l : List Int} (h : Lim b l) : Lim b (cutR l) := by
 induction l with
 | nil => exact h
 | cons x l ih =>
  obtain ⟨h1, h2⟩ := Lim.cons.1 h
  simp only [cutR]
  split
  ·exact Lim.nil
  ·exact Lim.cons.2 ⟨h1, ih h2⟩
end
section
variable {b : Nat}
theorem digF_eq (hb : 2 ≤ b) : ∀ (f g n : Nat), n ≤ f → n ≤ g → digF b f n = digF b g n
 | 0, g, n, h, _ => by
  have : n = 0 := by omega
  subst this
  cases g <;> simp [digF]
 | f + 1, 0, n, _, h => by
  have : n = 0 := by omega
  subst this
  simp [digF]
 | f + 1, g + 1, n, h1, h2 => by
  simp only [digF]
  by_cases hn : n = 0
  ·simp [hn]
  ·simp only [hn, if_false]
   have : n / b < n := Nat.div_lt_self (by omega) hb
   rw [digF_eq hb f g _ (by omega) (by omega)]
theorem dig_zero : dig b 0 = [] := rfl
theorem dig_step (hb : 2 ≤ b) {n : Nat} (h : n ≠ 0) : dig b n = ((n % b : Nat) : Int) :: dig b (n / b) := by
 cases n with
 | zero => exact absurd rfl h
 | succ n =>
  simp only [dig]
  rw [digF]
  simp only [h, if_false]
  have : (n + 1) / b < n + 1 := Nat.div_lt_self (by omega) hb
  rw [digF_eq hb n _ _ (by omega) (Nat.le_refl _)]
theorem dig_spec (hb : 2 ≤ b) (n : Nat) : V b (dig b n) = n ∧ Lim b (dig b n) := by
 induction n using Nat.strongRecOn with
 | _ n ih =>
  by_cases h : n = 0
  ·subst h; simp [dig_zero, V, Lim]
  ·rw [dig_step hb h]
   obtain ⟨h1, h2⟩ := ih (n / b) (Nat.div_lt_self (by omega) hb)
   have h3 := Nat.mod_lt n (show 0 < b by omega)
   have h4 := Nat.mod_add_div n b
   simp only [V, h1, Lim.cons]
   refine ⟨by exact_mod_cast h4, ⟨by omega, by omega⟩, h2⟩
theorem V_dig (hb : 2 ≤ b) (n : Nat) : V b (dig b n) = n := (dig_spec hb n).1
theorem Lim_dig (hb : 2 ≤ b) (n : Nat) : Lim b (dig b n) := (dig_spec hb n).2
theorem dig_eq_nil (hb : 2 ≤ b) {n : Nat} : dig b n = [] ↔ n = 0 := by
 constructor
 ·intro h; have := V_dig hb n; rw [h] at this; simp [V] at this; omega
 ·rintro rfl; rfl
theorem cutR_dig (hb : 2 ≤ b) : ∀ {l : List Int}, Lim b l → cutR l = dig b (V b l).toNat
 | [], _ => rfl
 | x :: l, h => by
  obtain ⟨h1, h2⟩ := Lim.cons.1 h
  have ih := cutR_dig hb h2
  have h3 := V_nonneg (by omega) h2
  simp only [cutR, ih, dig_eq_nil hb, V]
  obtain ⟨m, hm⟩ := Int.eq_ofNat_of_zero_le h3
  obtain ⟨y, hy⟩ := Int.eq_ofNat_of_zero_le h1.1
  subst hy
  rw [hm]
  have e0 : ((y : Int) + b * m).toNat = y + b * m := by
   rw [show ((y : Int) + b * m) = ((y + b * m : Nat) : Int) by simp]; exact Int.toNat_natCast _
  rw [e0, Int.toNat_natCast]
  by_cases hz : m = 0 ∧ y = 0
  ·obtain ⟨rfl, rfl⟩ := hz; simp [dig_zero]
  ·rw [if_neg (by omega)]
   have hyb : y < b := by omega
   have e1 : (y + b * m) / b = m := by rw [Nat.add_mul_div_left _ _ (by omega), Nat.div_eq_of_lt hyb]; simp
   have e2 : (y + b * m) % b = y := by rw [Nat.add_mul_mod_self_left, Nat.mod_eq_of_lt hyb]
   have hne : y + b * m ≠ 0 := by
    intro h0
    have h5 : b * m = 0 := by omega
    rcases Nat.mul_eq_zero.1 h5 with h6 | h6 <;> omega
   rw [dig_step hb hne, e1, e2]
theorem dig_len (hb : 2 ≤ b) {n k : Nat} (h : n < b ^ k) : (dig b n).length ≤ k := by
 induction k generalizing n with
 | zero => have : n = 0 := by simpa using h
           subst this; simp [dig_zero]
 | succ k ih =>
  by_cases h0 : n = 0
  ·subst h0; simp [dig_zero]
  ·rw [dig_step hb h0]
   have : n / b < b ^ k := by
    rw [Nat.pow_succ, Nat.mul_comm] at h
    exact Nat.div_lt_of_lt_mul h
   simpa using ih this
theorem cutR_of_dig (hb : 2 ≤ b) (n : Nat) : cutR (dig b n) = dig b n := by rw [cutR_dig hb (Lim_dig hb n), V_dig hb]; simp
end
section
variable {b : Int}
theorem V_split (l : List Int) (i : Nat) (h : i ≤ l.length) : V b l = V b (l.take i) + b ^ i * V b (l.drop i) := by
 conv => lhs; rw [← List.take_append_drop i l]
 rw [V_append]; simp [Nat.min_eq_left h]
theorem V_cons_nth {l : List Int} {i : Nat} (h : i < l.length) : V b l = V b (l.take i) + b ^ i * nth l i + b ^ (i + 1) * V b (l.drop (i + 1)) := by
 rw [V_split l (i + 1) (by omega), V_take_succ h]
theorem V_lt_of_top (hb : 0 < b) {x y : List Int} (lx : Lim b x) (ly : Lim b y) (hl : x.length = y.length) {i : Nat} (hi : i < x.length) (hd : x.drop (i + 1) = y.drop (i + 1)) (h : nth x i < nth y i) : V b x < V b y := by
 rw [V_cons_nth hi, V_cons_nth (l := y) (i := i) (by omega), hd]
 have h1 := V_lt hb (lx.take i)
 have h2 := V_nonneg hb (ly.take i)
 rw [List.length_take, Nat.min_eq_left (by omega)] at h1
 have h3 : b ^ i * (nth x i + 1) ≤ b ^ i * nth y i := Int.mul_le_mul_of_nonneg_left (by omega) (Int.le_of_lt (Int.pow_pos hb))
 rw [Int.mul_add] at h3
 omega
theorem V_canon_ge (hb : 1 ≤ b) : ∀ {l : List Int}, Lim b l → cutR l = l → l ≠ [] → b ^ (l.length - 1) ≤ V b l
 | [], _, _, h => absurd rfl h
 | [x], hl, hc, _ => by
  have h1 := (Lim.cons.1 hl).1
  have h2 : x ≠ 0 := fun h => by subst h; simp [cutR] at hc
  simp [V]; omega
 | x :: y :: l, hl, hc, _ => by
  have h1 := (Lim.cons.1 hl).1
  have hc2 : cutR (y :: l) = y :: l := by
   rw [cutR] at hc
   split at hc
   ·cases hc
   ·exact (List.cons.inj hc).2
  have ih := V_canon_ge hb (Lim.cons.1 hl).2 hc2 (by simp)
  simp only [List.length_cons, Nat.add_sub_cancel] at ih ⊢
  rw [Int.pow_succ, V]
  have := Int.mul_le_mul_of_nonneg_left ih (show 0 ≤ b by omega)
  rw [Int.mul_comm b] at this
  omega
theorem cutR_cutR : ∀ l : List Int, cutR (cutR l) = cutR l
 | [] => rfl
 | x :: l => by
  have ih := cutR_cutR l
  rw [cutR]
  split
  ·rfl
  ·rename_i h
   rw [cutR, ih, if_neg h]
theorem V_lt_of_len (hb : 1 ≤ b) {x y : List Int} (lx : Lim b x) (ly : Lim b y) (hy : cutR y = y) (h : x.length < y.length) : V b x < V b y := by
 have h1 := V_lt (by omega) lx
 have h2 := V_canon_ge hb ly hy (by intro h0; rw [h0] at h; simp at h)
 have h3 : b ^ x.length ≤ b ^ (y.length - 1) := by
  obtain ⟨k, hk⟩ : ∃ k, y.length - 1 = x.length + k := ⟨y.length - 1 - x.length, by omega⟩
  rw [hk, Int.pow_add]
  have : 1 ≤ b ^ k := Int.pow_pos (by omega)
  have := Int.mul_le_mul_of_nonneg_left this (show 0 ≤ b ^ x.length from Int.le_of_lt (Int.pow_pos (by omega)))
  simpa using this
 omega
end
def cmp3 (x y : Int) : Int := if x < y then -1 else if y < x then 1 else 0
theorem cmp3_lt {x y : Int} (h : x < y) : cmp3 x y = -1 := by simp [cmp3, h]
theorem cmp3_gt {x y : Int} (h : y < x) : cmp3 x y = 1 := by simp [cmp3, h]; omega
theorem cmp3_eq (x : Int) : cmp3 x x = 0 := by simp [cmp3]
theorem cmp3_neg {x y : Int} : cmp3 x y < 0 ↔ x < y := by simp only [cmp3]; split <;> (try split) <;> omega
theorem cmp3_nonneg {x y : Int} : 0 ≤ cmp3 x y ↔ y ≤ x := by simp only [cmp3]; split <;> (try split) <;> omega
theorem cmp3_zero {x y : Int} : cmp3 x y = 0 ↔ x = y := by simp only [cmp3]; split <;> (try split) <;> omega
theorem cmp3_pos {x y : Int} : 0 < cmp3 x y ↔ y < x := by simp only [cmp3]; split <;> (try split) <;> omega
section
variable {b : Nat}
def sz (b : Nat) (x : Int) : Nat := (dig b x.natAbs).length
theorem sz_lt (hb : 2 ≤ b) (x : Int) : x.natAbs < b ^ sz b x := by
 have h1 := V_lt (b := (b : Int)) (by omega) (Lim_dig hb x.natAbs)
 rw [V_dig hb] at h1
 have h2 : ((b : Int) ^ (dig b x.natAbs).length) = ((b ^ (dig b x.natAbs).length : Nat) : Int) := by simp
 rw [h2] at h1
 unfold sz
 omega
theorem sz_le (hb : 2 ≤ b) {x : Int} {k : Nat} (h : x.natAbs < b ^ k) : sz b x ≤ k := dig_len hb h
theorem pow_le' (hb : 2 ≤ b) {m n : Nat} (h : m ≤ n) : b ^ m ≤ b ^ n := Nat.pow_le_pow_right (by omega) h
theorem sz_add (hb : 2 ≤ b) {x y : Int} {k : Nat} (hx : sz b x ≤ k) (hy : sz b y ≤ k) : sz b (x + y) ≤ k + 1 := by
 refine sz_le hb ?_
 have h1 := Nat.lt_of_lt_of_le (sz_lt hb x) (pow_le' hb hx)
 have h2 := Nat.lt_of_lt_of_le (sz_lt hb y) (pow_le' hb hy)
 rw [Nat.pow_succ]
 have h3 : b ^ k * 2 ≤ b ^ k * b := Nat.mul_le_mul_left _ hb
 omega
theorem sz_mul (hb : 2 ≤ b) {x y : Int} {k m : Nat} (hx : sz b x ≤ k) (hy : sz b y ≤ m) : sz b (x * y) ≤ k + m := by
 refine sz_le hb ?_
 have h1 := Nat.lt_of_lt_of_le (sz_lt hb x) (pow_le' hb hx)
 have h2 := Nat.lt_of_lt_of_le (sz_lt hb y) (pow_le' hb hy)
 rw [Int.natAbs_mul, Nat.pow_add]
 exact Nat.mul_lt_mul'' h1 h2
theorem sz_neg (x : Int) : sz b (-x) = sz b x := by simp [sz]
theorem sz_zero : sz b 0 = 0 := by simp [sz, dig_zero]
theorem sz_mono (hb : 2 ≤ b) {x y : Int} (h : x.natAbs ≤ y.natAbs) : sz b x ≤ sz b y := sz_le hb (Nat.lt_of_le_of_lt h (sz_lt hb y))
end
theorem sz_V {b : Nat} (hb : 2 ≤ b) {l : List Int} (h : Lim b l) : sz b (V b l) ≤ l.length := by
 refine sz_le hb ?_
 have h1 := V_lt (b := (b : Int)) (by omega) h
 have h2 := V_nonneg (b := (b : Int)) (by omega) h
 have h3 : ((b : Int) ^ l.length) = ((b ^ l.length : Nat) : Int) := by simp
 rw [h3] at h1
 omega
theorem take_all {α : Type} {l : List α} {n : Nat} (h : l.length = n) : l.take n = l := List.take_of_length_le (by omega)
theorem set_take {α : Type} {l m : List α} {i : Nat} {x : α} (h : l.take i = m) (hi : i < l.length) : (l.set i x).take (i + 1) = m ++ [x] := by
 subst h
 rw [List.take_succ_eq_append_getElem (by simpa using hi), take_set_ge (Nat.le_refl _)]
 simp
theorem map_take_succ {α β : Type} [Inhabited α] {l : List α} {f : α → β} {i : Nat} (h : i < l.length) : (l.take (i + 1)).map f = (l.take i).map f ++ [f (nth l i)] := by
 rw [take_succ_nth h]; simp
end Pm
namespace Pm
theorem nth_map {α β : Type} [Inhabited α] [Inhabited β] {f : α → β} (h : f default = default) (l : List α) (k : Nat) : nth (l.map f) k = f (nth l k) := by
 unfold nth
 cases hk : l[k]? with
 | none => simp [hk, h]
 | some x => simp [hk]
theorem V_map_add {t : Int} {α : Type} (f g : α → Int) : ∀ l : List α, V t (l.map fun k => f k + g k) = V t (l.map f) + V t (l.map g)
 | [] => by simp [V]
 | x :: l => by simp only [List.map_cons, V, V_map_add f g l]; grind
theorem V_map_mul {t : Int} {α : Type} (c : Int) (f : α → Int) : ∀ l : List α, V t (l.map fun k => f k * c) = V t (l.map f) * c
 | [] => by simp [V]
 | x :: l => by simp only [List.map_cons, V, V_map_mul c f l]; grind
theorem range_nth {x : List Int} {n : Nat} (h : x.length ≤ n) : (List.range n).map (nth x) = x ++ List.replicate (n - x.length) 0 := by
 apply List.ext_getElem
 ·simp; omega
 ·intro i h1 h2
  simp at h1
  by_cases hi : i < x.length
  ·simp [List.getElem_append, hi, nth_eq hi]
  ·simp [List.getElem_append, hi]; exact nth_ge (by omega)
theorem V_range_nth {t : Int} {x : List Int} {n : Nat} (h : x.length ≤ n) : V t ((List.range n).map (nth x)) = V t x := by
 rw [range_nth h, V_append, V_rep]; simp
theorem uniq_step {N a b : Int} {A B : Int → Int} (h : ∀ t, N < t → a + t * A t = b + t * B t) : a = b ∧ ∀ t, max N 0 < t → A t = B t := by
 have hab : a = b := by
  have h1 := h (max N 0 + (b - a).natAbs + 1) (by omega)
  generalize hT : max N 0 + (b - a).natAbs + 1 = T at *
  have h2 : b - a = T * (A T - B T) := by rw [Int.mul_sub]; omega
  have h3 : T ∣ b - a := ⟨_, h2⟩
  have h4 := Nat.eq_zero_of_dvd_of_lt (Int.natAbs_dvd_natAbs.2 h3) (by omega)
  omega
 refine ⟨hab, fun t ht => ?_⟩
 have h1 := h t (by omega)
 have h2 : t * A t = t * B t := by omega
 exact Int.eq_of_mul_eq_mul_left (by omega) h2
theorem V_uniq_aux : ∀ (x y : List Int) (N : Int), (∀ t, N < t → V t x = V t y) → cutR x = cutR y
 | [], [], _, _ => rfl
 | [], b :: y, N, h => by
  obtain ⟨h1, h2⟩ := uniq_step (N := N) (a := 0) (b := b) (A := fun _ => 0) (B := fun t => V t y) (fun t ht => by have := h t ht; simp only [V] at this; omega)
  have := V_uniq_aux [] y (max N 0) (fun t ht => by have := h2 t ht; simpa [V] using this)
  simp only [cutR] at this ⊢
  rw [← this]; simp [← h1]
 | a :: x, [], N, h => by
  obtain ⟨h1, h2⟩ := uniq_step (N := N) (a := a) (b := 0) (A := fun t => V t x) (B := fun _ => 0) (fun t ht => by have := h t ht; simp only [V] at this; omega)
  have := V_uniq_aux x [] (max N 0) (fun t ht => by have := h2 t ht; simpa [V] using this)
  simp only [cutR] at this ⊢
  rw [this]; simp [h1]
 | a :: x, b :: y, N, h => by
  obtain ⟨h1, h2⟩ := uniq_step (N := N) (a := a) (b := b) (A := fun t => V t x) (B := fun t => V t y) (fun t ht => h t ht)
  have := V_uniq_aux x y (max N 0) h2
  simp only [cutR]
  rw [this, h1]
theorem V_uniq {x y : List Int} (h : ∀ t, V t x = V t y) : cutR x = cutR y := V_uniq_aux x y 0 fun t _ => h t
def padd (x y : List Int) : List Int := cutR ((List.range (max x.length y.length)).map fun k => nth x k + nth y k)
def psub (x y : List Int) : List Int := cutR ((List.range (max x.length y.length)).map fun k => nth x k - nth y k)
def pneg (x : List Int) : List Int := cutR (x.map fun c => -c)
def pscale (x : List Int) (c : Int) : List Int := cutR (x.map fun a => a * c)
def pmul0 : List Int → List Int → List Int
 | [], _ => []
 | a :: x, y => padd (y.map fun c => c * a) (0 :: pmul0 x y)
def pmul (x y : List Int) : List Int := cutR (pmul0 x y)
theorem V_padd {t : Int} (x y : List Int) : V t (padd x y) = V t x + V t y := by
 rw [padd, V_cutR, V_map_add, V_range_nth (by omega), V_range_nth (by omega)]
theorem V_pneg {t : Int} (x : List Int) : V t (pneg x) = - V t x := by
 have := V_map_mul (t := t) (-1) id x
 rw [pneg, V_cutR]
 simp only [id_eq, Int.mul_neg, Int.mul_one, List.map_id_fun] at this
 exact this
theorem V_pscale {t : Int} (x : List Int) (c : Int) : V t (pscale x c) = V t x * c := by
 have := V_map_mul (t := t) c id x
 rw [pscale, V_cutR]
 simpa using this
theorem V_psub {t : Int} (x y : List Int) : V t (psub x y) = V t x - V t y := by
 rw [psub, V_cutR]
 have h1 := V_map_add (t := t) (fun k => nth x k - nth y k) (nth y) (List.range (max x.length y.length))
 have h2 : (fun k => nth x k - nth y k + nth y k) = nth x := by funext k; omega
 rw [h2, V_range_nth (by omega), V_range_nth (by omega)] at h1
 omega
theorem V_pmul0 {t : Int} : ∀ x y : List Int, V t (pmul0 x y) = V t x * V t y
 | [], y => by simp [pmul0, V]
 | a :: x, y => by
  have := V_map_mul (t := t) a id y
  simp only [id_eq, List.map_id_fun] at this
  rw [pmul0, V_padd, this]
  simp only [V, V_pmul0 x y]
  grind
theorem V_pmul {t : Int} (x y : List Int) : V t (pmul x y) = V t x * V t y := by rw [pmul, V_cutR, V_pmul0]
def Cn (x : List Int) : Prop := cutR x = x
theorem Cn.padd (x y : List Int) : Cn (padd x y) := cutR_cutR _
theorem Cn.psub (x y : List Int) : Cn (psub x y) := cutR_cutR _
theorem Cn.pneg (x : List Int) : Cn (pneg x) := cutR_cutR _
theorem Cn.pscale (x : List Int) (c : Int) : Cn (pscale x c) := cutR_cutR _
theorem Cn.pmul (x y : List Int) : Cn (pmul x y) := cutR_cutR _
theorem Cn.cut (x : List Int) : Cn (cutR x) := cutR_cutR _
theorem Cn.nil : Cn [] := rfl
theorem Cn.ext {x y : List Int} (hx : Cn x) (hy : Cn y) (h : ∀ t, V t x = V t y) : x = y := by rw [← hx, ← hy]; exact V_uniq h
structure Bd (b s n : Nat) (x : List Int) : Prop where
 len : x.length ≤ n
 sz : ∀ c ∈ x, sz b c ≤ s
theorem cutR_sub : ∀ (x : List Int) (c : Int), c ∈ cutR x → c ∈ x
 | [], c, h => h
 | a :: x, c, h => by
  rw [cutR] at h
  split at h
  ·cases h
  ·rcases List.mem_cons.1 h with h1 | h1
   ·simp [h1]
   ·exact List.mem_cons_of_mem _ (cutR_sub x c h1)
section
variable {b s s' n n' : Nat} {x y : List Int}
theorem Bd.mono (h : Bd b s n x) (hs : s ≤ s') (hn : n ≤ n') : Bd b s' n' x := ⟨Nat.le_trans h.len hn, fun c hc => Nat.le_trans (h.sz c hc) hs⟩
theorem Bd.cut (h : Bd b s n x) : Bd b s n (cutR x) := ⟨Nat.le_trans (cutR_len x) h.len, fun c hc => h.sz c (cutR_sub x c hc)⟩
theorem Bd.nth (h : Bd b s n x) (i : Nat) : Pm.sz b (nth x i) ≤ s := by
 by_cases hi : i < x.length
 ·exact h.sz _ (nth_mem hi)
 ·rw [nth_ge (by omega)]
  show Pm.sz b 0 ≤ s
  rw [sz_zero]; omega
theorem Bd.padd (hb : 2 ≤ b) (hx : Bd b s n x) (hy : Bd b s n y) : Bd b (s + 1) n (padd x y) := by
 refine Bd.cut ⟨by have := hx.len; have := hy.len; simp; omega, fun c hc => ?_⟩
 simp only [List.mem_map] at hc
 obtain ⟨k, _, rfl⟩ := hc
 exact sz_add hb (hx.nth k) (hy.nth k)
theorem Bd.psub (hb : 2 ≤ b) (hx : Bd b s n x) (hy : Bd b s n y) : Bd b (s + 1) n (psub x y) := by
 refine Bd.cut ⟨by have := hx.len; have := hy.len; simp; omega, fun c hc => ?_⟩
 simp only [List.mem_map] at hc
 obtain ⟨k, _, rfl⟩ := hc
 rw [Int.sub_eq_add_neg]
 exact sz_add hb (hx.nth k) (by rw [sz_neg]; exact hy.nth k)
theorem Bd.pneg (hx : Bd b s n x) : Bd b s n (pneg x) := by
 refine Bd.cut ⟨by simpa using hx.len, fun c hc => ?_⟩
 simp only [List.mem_map] at hc
 obtain ⟨k, hk, rfl⟩ := hc
 rw [sz_neg]; exact hx.sz k hk
theorem Bd.pscale (hb : 2 ≤ b) (hx : Bd b s n x) {c : Int} (hc : Pm.sz b c ≤ s') : Bd b (s + s') n (pscale x c) := by
 refine Bd.cut ⟨by simpa using hx.len, fun d hd => ?_⟩
 simp only [List.mem_map] at hd
 obtain ⟨k, hk, rfl⟩ := hd
 exact sz_mul hb (hx.sz k hk) hc
theorem Bd.pmul0 (hb : 2 ≤ b) (hy : Bd b s' n' y) : ∀ {x : List Int} {n : Nat}, Bd b s n x → Bd b (s + s' + n) (n + n') (pmul0 x y)
 | [], n, _ => ⟨by simp [Pm.pmul0], by simp [Pm.pmul0]⟩
 | a :: x, 0, h => by have := h.len; simp at this
 | a :: x, n + 1, h => by
  have h1 : Bd b s n x := ⟨by have := h.len; simpa using this, fun c hc => h.sz c (List.mem_cons_of_mem _ hc)⟩
  have h2 := Bd.pmul0 hb hy h1
  have h3 : Bd b (s + s' + n) (n + 1 + n') (0 :: Pm.pmul0 x y) := ⟨by have := h2.len; simp; omega, fun c hc => by
   rcases List.mem_cons.1 hc with h4 | h4
   ·rw [h4, sz_zero]; omega
   ·exact h2.sz c h4⟩
  have h4 : Bd b (s + s' + n) (n + 1 + n') (y.map fun c => c * a) := ⟨by have := hy.len; simp; omega, fun d hd => by
   simp only [List.mem_map] at hd
   obtain ⟨k, hk, rfl⟩ := hd
   have := sz_mul hb (hy.sz k hk) (h.sz a (by simp))
   omega⟩
  have := Bd.padd hb h4 h3
  rw [Pm.pmul0]
  exact this.mono (by omega) (by omega)
theorem Bd.pmul (hb : 2 ≤ b) (hx : Bd b s n x) (hy : Bd b s' n' y) : Bd b (s + s' + n) (n + n') (pmul x y) := (Bd.pmul0 hb hy hx).cut
end
end Pm
namespace Pm
def nb (n : Nat) : Nat := if n = 0 then 0 else n.log2 + 1
theorem nb_lt {n k : Nat} : nb n ≤ k ↔ n < 2 ^ k := by
 unfold nb
 split
 ·rename_i h; subst h; simp; exact Nat.pow_pos (by decide)
 ·rename_i h; rw [← Nat.log2_lt h]; omega
theorem nb_shift {n k : Nat} (h : n / 2 ^ k ≠ 0) : nb n = k + nb (n / 2 ^ k) := by
 apply Nat.le_antisymm
 ·rw [nb_lt, Nat.pow_add]
  have h1 : n / 2 ^ k < 2 ^ nb (n / 2 ^ k) := nb_lt.1 (Nat.le_refl _)
  have h2 := Nat.lt_mul_of_div_lt h1 (Nat.pow_pos (by decide))
  rw [Nat.mul_comm] at h2
  exact h2
 ·have h3 : ∀ m, nb n ≤ m → k + nb (n / 2 ^ k) ≤ m := by
   intro m hm
   rw [nb_lt] at hm
   have hkm : k ≤ m := by
    rcases Nat.lt_or_ge m k with h4 | h4
    ·exfalso; apply h; apply Nat.div_eq_of_lt; exact Nat.lt_of_lt_of_le hm (Nat.pow_le_pow_right (by decide) (by omega))
    ·exact h4
   have h5 : nb (n / 2 ^ k) ≤ m - k := by
    rw [nb_lt]
    apply Nat.div_lt_of_lt_mul
    rw [← Nat.pow_add, show k + (m - k) = m by omega]; exact hm
   omega
  exact h3 _ (Nat.le_refl _)
end Pm
namespace Pm
theorem erase_take {α : Type} [Inhabited α] {m : List α} {r i : Nat} (hr : r < m.length) : (m.take (r + 1)).eraseIdx i = if r = i then (m.take r).eraseIdx i else (m.take r).eraseIdx i ++ [nth m r] := by
 rw [take_succ_nth hr]
 have hl : (m.take r).length = r := by simp; omega
 generalize m.take r = l at *
 split
 ·rename_i h
  subst h
  rw [List.eraseIdx_append_of_length_le (by omega), List.eraseIdx_of_length_le (l := l) (by omega)]
  simp [hl]
 ·rename_i h
  rcases Nat.lt_or_ge i r with h1 | h1
  ·rw [List.eraseIdx_append_of_lt_length (by omega)]
  ·have h2 : (l ++ [nth m r]).length ≤ i := by simp; omega
   rw [List.eraseIdx_of_length_le h2, List.eraseIdx_of_length_le (l := l) (by omega)]
end Pm
namespace Pm
open Go
theorem or_nat {a b s : Nat} (h : 2 ^ s ∣ a) (hb : b < 2 ^ s) : a ||| b = a + b := by
 obtain ⟨q, rfl⟩ := h
 exact (Nat.two_pow_add_eq_or_of_lt hb q).symm
theorem orInt_u32 {a b s : Nat} (h : 2 ^ s ∣ a) (hb : b < 2 ^ s) (hab : a + b < 4294967296) : orInt .u32 a b = ((a + b : Nat) : Int) := by
 have h1 : ((BitVec.ofInt 32 (a : Int)) ||| (BitVec.ofInt 32 (b : Int))).toNat = a + b := by
  rw [BitVec.toNat_or, BitVec.toNat_ofInt, BitVec.toNat_ofInt, ← or_nat h hb]
  congr 1 <;> omega
 show IntKind.u32.wrap (((BitVec.ofInt 32 (a : Int)) ||| (BitVec.ofInt 32 (b : Int))).toNat : Int) = _
 rw [h1]
 simp only [IntKind.wrap, IntKind.bits, IntKind.signed]
 simp
 omega
theorem orInt_u64 {a b s : Nat} (h : 2 ^ s ∣ a) (hb : b < 2 ^ s) (hab : a + b < 18446744073709551616) : orInt .u64 a b = ((a + b : Nat) : Int) := by
 have h1 : ((BitVec.ofInt 64 (a : Int)) ||| (BitVec.ofInt 64 (b : Int))).toNat = a + b := by
  rw [BitVec.toNat_or, BitVec.toNat_ofInt, BitVec.toNat_ofInt, ← or_nat h hb]
  congr 1 <;> omega
 show IntKind.u64.wrap (((BitVec.ofInt 64 (a : Int)) ||| (BitVec.ofInt 64 (b : Int))).toNat : Int) = _
 rw [h1]
 simp only [IntKind.wrap, IntKind.bits, IntKind.signed]
 simp
 omega
theorem orInt_comm (k : IntKind) (a b : Int) : orInt k a b = orInt k b a := by unfold orInt; rw [BitVec.or_comm]
theorem orI_u32 {a b : Int} (s : Nat) (ha : 0 ≤ a) (hb0 : 0 ≤ b) (h : (2 ^ s : Int) ∣ a) (hb : b < 2 ^ s) (hab : a + b < 4294967296) : orInt .u32 a b = a + b ∧ orInt .u32 b a = a + b := by
 obtain ⟨x, rfl⟩ := Int.eq_ofNat_of_zero_le ha
 obtain ⟨y, rfl⟩ := Int.eq_ofNat_of_zero_le hb0
 have h1 : 2 ^ s ∣ x := by exact_mod_cast h
 have h2 : y < 2 ^ s := by exact_mod_cast hb
 have := orInt_u32 h1 h2 (by omega)
 rw [orInt_comm .u32 (y : Int)]
 refine ⟨?_, ?_⟩ <;> rw [this] <;> simp
theorem orI_u64 {a b : Int} (s : Nat) (ha : 0 ≤ a) (hb0 : 0 ≤ b) (h : (2 ^ s : Int) ∣ a) (hb : b < 2 ^ s) (hab : a + b < 18446744073709551616) : orInt .u64 a b = a + b ∧ orInt .u64 b a = a + b := by
 obtain ⟨x, rfl⟩ := Int.eq_ofNat_of_zero_le ha
 obtain ⟨y, rfl⟩ := Int.eq_ofNat_of_zero_le hb0
 have h1 : 2 ^ s ∣ x := by exact_mod_cast h
 have h2 : y < 2 ^ s := by exact_mod_cast hb
 have := orInt_u64 h1 h2 (by omega)
 rw [orInt_comm .u64 (y : Int)]
 refine ⟨?_, ?_⟩ <;> rw [this] <;> simp
end Pm
namespace Pm
structure KD (b W top next head x2 X Y : Int) : Prop where
 b0 : 2 ≤ b
 W0 : 1 ≤ W
 t0 : 1 ≤ top
 n0 : 0 ≤ next
 h0 : 0 ≤ head
 x0 : 0 ≤ x2
 nb : next < b
 xb : x2 < b
 Yl : (top * b + next) * W ≤ Y
 Yu : Y < (top * b + next + 1) * W
 Xl : (head * b + x2) * W ≤ X
 Xu : X < (head * b + x2 + 1) * W
 lt : X < b * Y
section
variable {b W top next head x2 X Y : Int} (h : KD b W top next head x2 X Y)
include h
theorem KD.Y0 : 0 < Y := by
 have h1 : 1 ≤ top * b + next := by
  have := Int.mul_le_mul_of_nonneg_right h.t0 (show 0 ≤ b by have := h.b0; omega)
  have := h.n0; have := h.b0; omega
 have := Int.mul_le_mul h1 h.W0 (by decide) (by omega)
 have := h.Yl; omega
theorem KD.first : X < (head / top + 1) * Y := by
 have h1 : head + 1 ≤ (head / top + 1) * top := by
  have := Int.lt_ediv_add_one_mul_self head (show 0 < top by have := h.t0; omega)
  omega
 have hg : 0 ≤ head / top + 1 := by have := Int.ediv_nonneg h.h0 (show 0 ≤ top by have := h.t0; omega); omega
 have hbW : 0 ≤ b * W := Int.mul_nonneg (by have := h.b0; omega) (by have := h.W0; omega)
 have h2 := Int.mul_le_mul_of_nonneg_right h1 hbW
 have h3 : (head * b + x2 + 1) * W ≤ (head + 1) * (b * W) := by
  have : (head + 1) * (b * W) = (head * b + b) * W := by grind
  rw [this]
  exact Int.mul_le_mul_of_nonneg_right (by have := h.xb; omega) (by have := h.W0; omega)
 have h4 : top * (b * W) ≤ Y := by
  have : top * (b * W) ≤ (top * b + next) * W := by
   have e : top * (b * W) = (top * b) * W := by grind
   rw [e]
   exact Int.mul_le_mul_of_nonneg_right (by have := h.n0; omega) (by have := h.W0; omega)
  have := h.Yl; omega
 have h5 : (head / top + 1) * top * (b * W) ≤ (head / top + 1) * Y := by
  rw [Int.mul_assoc]; exact Int.mul_le_mul_of_nonneg_left h4 hg
 have := h.Xu; omega
theorem KD.big {g : Int} (hg : b ≤ g) : X < g * Y := by
 have := Int.mul_le_mul_of_nonneg_right hg (Int.le_of_lt h.Y0)
 have := h.lt; omega
theorem KD.over {g r : Int} (hg : 0 ≤ g) (hr : g * top + r = head) (ho : r * b + x2 < g * next) : X < g * Y := by
 have h1 : head * b + x2 + 1 ≤ g * (top * b + next) := by
  have : g * (top * b + next) = (g * top) * b + g * next := by grind
  have h2 : g * top = head - r := by omega
  have h3 : (head - r) * b = head * b - r * b := by grind
  rw [this, h2, h3]; omega
 have h2 := Int.mul_le_mul_of_nonneg_right h1 (show 0 ≤ W by have := h.W0; omega)
 have h3 := Int.mul_le_mul_of_nonneg_left h.Yl hg
 rw [← Int.mul_assoc] at h3
 have := h.Xu; omega
theorem KD.near {g r : Int} (hg : 0 ≤ g) (hgb : g < b) (hr : g * top + r = head) (hn : g * next ≤ r * b + x2) : g * Y < X + Y := by
 have h1 : g * (top * b + next) ≤ head * b + x2 := by
  have : g * (top * b + next) = (g * top) * b + g * next := by grind
  have h2 : g * top = head - r := by omega
  have h3 : (head - r) * b = head * b - r * b := by grind
  rw [this, h2, h3]; omega
 have h2 := Int.mul_le_mul_of_nonneg_right h1 (show 0 ≤ W by have := h.W0; omega)
 have h3 : g * Y ≤ g * ((top * b + next) * W) + g * W := by
  have h4 : Y ≤ (top * b + next) * W + W := by have := h.Yu; grind
  have := Int.mul_le_mul_of_nonneg_left h4 hg
  rw [Int.mul_add] at this; exact this
 have h5 : g * W < b * W := Int.mul_lt_mul_of_pos_right hgb (by have := h.W0; omega)
 have h6 : b * W ≤ Y := by
  have h7 : b * W ≤ (top * b + next) * W := Int.mul_le_mul_of_nonneg_right (by
   have := Int.mul_le_mul_of_nonneg_right h.t0 (show 0 ≤ b by have := h.b0; omega)
   have := h.n0; omega) (by have := h.W0; omega)
  have := h.Yl; omega
 rw [← Int.mul_assoc] at h3
 have := h.Xl; omega
theorem KD.broke {g r : Int} (hg : 0 ≤ g) (hgb : g < b) (hr : b ≤ r) : g * next ≤ r * b + x2 := by
 have h1 : g * next ≤ b * b := Int.mul_le_mul (by omega) (by have := h.nb; omega) h.n0 (by have := h.b0; omega)
 have h2 : b * b ≤ r * b := Int.mul_le_mul_of_nonneg_right hr (by have := h.b0; omega)
 have := h.x0; omega
theorem KD.broke_lt {g r : Int} (hh : head ≤ top * b + b - 1) (he : g * top + r = head) (hr : b ≤ r) : g < b := by
 rcases Int.lt_or_le g b with h1 | h1
 ·exact h1
 ·have := Int.mul_le_mul_of_nonneg_right h1 (show 0 ≤ top by have := h.t0; omega)
  rw [Int.mul_comm b] at this
  omega
theorem KD.right {g : Int} (h1 : X < (g + 1) * Y) (h2 : 0 ≤ X - g * Y) : g = X / Y ∧ X - g * Y = X % Y := by
 have hY := h.Y0
 have h3 : X / Y = g := by
  have e : (g + 1) * Y = g * Y + Y := by grind
  rw [Int.ediv_eq_iff_of_pos hY]
  constructor
  ·omega
  ·omega
 refine ⟨h3.symm, ?_⟩
 have := Int.emod_def X Y
 rw [h3, Int.mul_comm] at this
 omega
theorem KD.wrong {g : Int} (h1 : g * Y < X + Y) (h2 : X - g * Y < 0) : g - 1 = X / Y ∧ X - g * Y + Y = X % Y := by
 have hY := h.Y0
 have e : (g - 1) * Y = g * Y - Y := by grind
 have e2 : (g - 1 + 1) * Y = g * Y := by grind
 have := h.right (g := g - 1) (by rw [e2]; omega) (by rw [e]; omega)
 rw [e] at this
 exact ⟨this.1, by have := this.2; omega⟩
end
end Pm
namespace Pm
theorem shr_limb {d e x x' : Int} (hd : 0 < d) (he : 0 < e) (hde : d * e = 4294967296) (hx : 0 ≤ x ∧ x < 4294967296) (hx' : 0 ≤ x' ∧ x' < 4294967296) :
  d * (((x + 4294967296 * x') / d) % 4294967296) = x - x % d + 4294967296 * (x' % d) ∧ (0 ≤ ((x + 4294967296 * x') / d) % 4294967296 ∧ ((x + 4294967296 * x') / d) % 4294967296 < 4294967296) := by
 have h1 : (x + 4294967296 * x') / d = x / d + e * x' := by
  have : x + 4294967296 * x' = x + d * (e * x') := by rw [← hde]; grind
  rw [this, Int.add_mul_ediv_left _ _ (by omega)]
 have h2 : x / d < e := Int.ediv_lt_of_lt_mul hd (by rw [Int.mul_comm, hde]; exact hx.2)
 have h3 : 0 ≤ x / d := Int.ediv_nonneg hx.1 (by omega)
 have h4 : e * x' = e * (x' % d) + 4294967296 * (x' / d) := by
  have := Int.mul_ediv_add_emod x' d
  calc e * x' = e * (d * (x' / d) + x' % d) := by rw [this]
   _ = e * (x' % d) + (d * e) * (x' / d) := by grind
   _ = e * (x' % d) + 4294967296 * (x' / d) := by rw [hde]
 have h5 : 0 ≤ x' % d := Int.emod_nonneg _ (by omega)
 have h6 : x' % d < d := Int.emod_lt_of_pos _ hd
 have h7 : e * (x' % d) + e ≤ 4294967296 := by
  have := Int.mul_le_mul_of_nonneg_left (show x' % d + 1 ≤ d by omega) (show 0 ≤ e by omega)
  rw [Int.mul_add, Int.mul_comm e d, hde] at this; omega
 have h8 : 0 ≤ e * (x' % d) := Int.mul_nonneg (by omega) h5
 have h9 : ((x + 4294967296 * x') / d) % 4294967296 = x / d + e * (x' % d) := by
  rw [h1, h4, ← Int.add_assoc, Int.add_mul_emod_self_left, Int.emod_eq_of_lt (by omega) (by omega)]
 rw [h9]
 refine ⟨?_, by omega, by omega⟩
 have h10 := Int.mul_ediv_add_emod x d
 have h11 : d * (e * (x' % d)) = 4294967296 * (x' % d) := by rw [← Int.mul_assoc, hde]
 rw [Int.mul_add, h11]; omega
end Pm
namespace Pm
theorem kd_of {m : Nat} {D y : List Int} (hD : m + 3 ≤ D.length) (hy : y.length = m + 2) (lD : Lim 4294967296 D) (ly : Lim 4294967296 y) (ht : 1 ≤ nth y (m + 1)) (hlt : V 4294967296 (D.take (m + 3)) < 4294967296 * V 4294967296 y) :
  KD 4294967296 (4294967296 ^ m) (nth y (m + 1)) (nth y m) (nth D (m + 2) * 4294967296 + nth D (m + 1)) (nth D m) (V 4294967296 (D.take (m + 3))) (V 4294967296 y) ∧ nth D (m + 2) ≤ nth y (m + 1) := by
 have hp : (0 : Int) < 4294967296 ^ m := Int.pow_pos (by decide)
 have y0 := V_nonneg (by decide) (ly.take m)
 have y1 := V_lt (by decide) (ly.take m)
 rw [List.length_take, Nat.min_eq_left (by omega)] at y1
 have x0 := V_nonneg (by decide) (lD.take m)
 have x1 := V_lt (by decide) (lD.take m)
 rw [List.length_take, Nat.min_eq_left (by omega)] at x1
 have hY : V 4294967296 y = V 4294967296 (y.take m) + 4294967296 ^ m * (nth y m + 4294967296 * nth y (m + 1)) := by
  rw [← V_take_all (l := y) (i := m + 1 + 1) (by omega), V_take_succ (by omega), V_take_succ (by omega), Int.pow_succ]; grind
 have hX : V 4294967296 (D.take (m + 3)) = V 4294967296 (D.take m) + 4294967296 ^ m * (nth D m + 4294967296 * (nth D (m + 1) + 4294967296 * nth D (m + 2))) := by
  rw [show m + 3 = m + 1 + 1 + 1 from rfl, V_take_succ (by omega), V_take_succ (by omega), V_take_succ (by omega), Int.pow_succ, Int.pow_succ]; grind
 have l1 := ly.nth (i := m) (by omega)
 have l2 := ly.nth (i := m + 1) (by omega)
 have k0 := lD.nth (i := m) (by omega)
 have k1 := lD.nth (i := m + 1) (by omega)
 have k2 := lD.nth (i := m + 2) (by omega)
 generalize nth y m = ya at *
 generalize nth y (m + 1) = yb at *
 generalize nth D m = xa at *
 generalize nth D (m + 1) = xb at *
 generalize nth D (m + 2) = xc at *
 generalize V 4294967296 (y.take m) = yr at *
 generalize V 4294967296 (D.take m) = xr at *
 generalize V 4294967296 (D.take (m + 3)) = X at *
 generalize V 4294967296 y = Y at *
 generalize (4294967296 : Int) ^ m = W at *
 have e1 : (yb * 4294967296 + ya) * W = W * (ya + 4294967296 * yb) := by grind
 have e2 : (yb * 4294967296 + ya + 1) * W = W * (ya + 4294967296 * yb) + W := by grind
 have e3 : ((xc * 4294967296 + xb) * 4294967296 + xa) * W = W * (xa + 4294967296 * (xb + 4294967296 * xc)) := by grind
 have e4 : ((xc * 4294967296 + xb) * 4294967296 + xa + 1) * W = W * (xa + 4294967296 * (xb + 4294967296 * xc)) + W := by grind
 refine ⟨⟨by decide, by omega, ht, l1.1, by omega, k0.1, l1.2, k0.2, by omega, by omega, by omega, by omega, hlt⟩, ?_⟩
 rcases Int.lt_or_le yb xc with h | h
 ·exfalso
  have h1 : W * (4294967296 * (4294967296 * (yb + 1))) ≤ W * (xa + 4294967296 * (xb + 4294967296 * xc)) := Int.mul_le_mul_of_nonneg_left (by omega) (by omega)
  have h2 : Y < W * (4294967296 * (yb + 1)) := by
   have := Int.mul_le_mul_of_nonneg_left (show ya + 4294967296 * yb + 1 ≤ 4294967296 * (yb + 1) by omega) (show 0 ≤ W by omega)
   rw [Int.mul_add] at this
   omega
  have h3 : W * (4294967296 * (4294967296 * (yb + 1))) = 4294967296 * (W * (4294967296 * (yb + 1))) := by grind
  omega
 ·exact h
theorem sub_limb {g w c x β : Int} (hg : 0 ≤ g ∧ g < 4294967296) (hw : 0 ≤ w ∧ w < 4294967296) (hc : 0 ≤ c ∧ c < 4294967296) (hx : 0 ≤ x ∧ x < 4294967296) (hβ : β = 0 ∨ β = 1) :
  (0 ≤ g * w + c ∧ g * w + c < 18446744069414584321) ∧ (0 ≤ (g * w + c) / 4294967296 ∧ (g * w + c) / 4294967296 < 4294967296) ∧
  ∃ β', (β' = 0 ∨ β' = 1) ∧ ((x - (g * w + c) % 4294967296 - β) % 18446744073709551616) / 9223372036854775808 = β' ∧
   ((x - (g * w + c) % 4294967296 - β) % 18446744073709551616) % 4294967296 = x - (g * w + c) % 4294967296 - β + β' * 4294967296 := by
 have h1 : 0 ≤ g * w := Int.mul_nonneg hg.1 hw.1
 have h2 : g * w ≤ 4294967295 * 4294967295 := Int.mul_le_mul (by omega) (by omega) hw.1 (by omega)
 generalize g * w = p at *
 refine ⟨by omega, by omega, ?_⟩
 rcases Int.lt_or_le (x - (p + c) % 4294967296 - β) 0 with h | h
 ·exact ⟨1, .inr rfl, by omega, by omega⟩
 ·exact ⟨0, .inl rfl, by omega, by omega⟩
end Pm
namespace Pm
theorem psub_len (x y : List Int) : (psub x y).length ≤ max x.length y.length := Nat.le_trans (cutR_len _) (by simp)
theorem pscale_len (x : List Int) (c : Int) : (pscale x c).length ≤ x.length := Nat.le_trans (cutR_len _) (by simp)
def lead (x : List Int) : Int := nth x (x.length - 1)
theorem lead_split {x : List Int} (h : 0 < x.length) : x = x.take (x.length - 1) ++ [lead x] := by
 have := take_succ_nth (l := x) (i := x.length - 1) (by omega)
 rw [show x.length - 1 + 1 = x.length by omega, List.take_length] at this
 exact this
theorem lead_ne {x : List Int} (hc : Cn x) (h : 0 < x.length) : lead x ≠ 0 := by
 intro h0
 have e := lead_split h
 rw [h0] at e
 have h1 := cutR_zero (x.take (x.length - 1))
 rw [← e, show cutR x = x from hc] at h1
 have h2 := cutR_len (x.take (x.length - 1))
 rw [← h1, List.length_take] at h2
 omega
theorem V_lead {x : List Int} (h : 0 < x.length) (t : Int) : V t x = V t (x.take (x.length - 1)) + t ^ (x.length - 1) * lead x := by
 conv => lhs; rw [lead_split h]
 rw [V_append, V_one, List.length_take, Nat.min_eq_left (by omega)]
def stp (i : Nat) (x : Int) : List Int := List.replicate i 0 ++ [x]
theorem V_stp (t : Int) (i : Nat) (x : Int) : V t (stp i x) = t ^ i * x := by rw [stp, V_append, V_rep, V_one]; simp
def psx (b r : List Int) (i : Nat) : Int := if r.length = b.length + i then lead r else 0
def psq (c x : Int) (i : Nat) (q : List Int) : List Int := padd (pscale q c) (stp i x)
def psr (b : List Int) (c x : Int) (i : Nat) (r : List Int) : List Int := psub (pscale r c) (pmul (stp i x) b)
def ps (b : List Int) (c : Int) : Nat → List Int → List Int → List Int × List Int
 | 0, q, r => (q, r)
 | i + 1, q, r => ps b c i (psq c (psx b r i) i q) (psr b c (psx b r i) i r)
theorem V_ps (t : Int) (b : List Int) (c : Int) : ∀ (k : Nat) (q r : List Int), V t (ps b c k q r).1 * V t b + V t (ps b c k q r).2 = c ^ k * (V t q * V t b + V t r)
 | 0, q, r => by simp [ps]
 | i + 1, q, r => by
  rw [ps, V_ps t b c i]
  simp only [psq, psr, V_padd, V_psub, V_pscale, V_pmul, V_stp, Int.pow_succ]
  grind
theorem psr_len {b r : List Int} {i : Nat} (hb : 0 < b.length) (hr : r.length ≤ b.length + i) : (psr b (lead b) (psx b r i) i r).length ≤ b.length - 1 + i := by
 rcases Nat.lt_or_ge r.length (b.length + i) with h | h
 ·have hx : psx b r i = 0 := by rw [psx, if_neg (by omega)]
  have e : psr b (lead b) (psx b r i) i r = pscale r (lead b) := Cn.ext (Cn.psub _ _) (Cn.pscale _ _) fun t => by
   rw [hx, psr, V_psub, V_pmul, V_stp]; simp
  rw [e]
  have := pscale_len r (lead b); omega
 ·have hrl : r.length = b.length + i := by omega
  have hx : psx b r i = lead r := by rw [psx, if_pos hrl]
  have e : psr b (lead b) (psx b r i) i r = psub (pscale (r.take (r.length - 1)) (lead b)) (List.replicate i 0 ++ (b.take (b.length - 1)).map fun v => v * lead r) := Cn.ext (Cn.psub _ _) (Cn.psub _ _) fun t => by
   have h1 := V_lead (x := r) (by omega) t
   have h2 := V_lead (x := b) hb t
   have h3 := V_map_mul (t := t) (lead r) id (b.take (b.length - 1))
   simp only [id_eq, List.map_id_fun] at h3
   rw [hx, psr, V_psub, V_psub, V_pmul, V_stp, V_pscale, V_pscale, V_append, V_rep, h3, List.length_replicate, h1, h2, show r.length - 1 = i + (b.length - 1) by omega, Int.pow_add]
   grind
  rw [e]
  refine Nat.le_trans (psub_len _ _) ?_
  have h4 := pscale_len (r.take (r.length - 1)) (lead b)
  rw [List.length_take] at h4
  simp only [List.length_append, List.length_replicate, List.length_map, List.length_take]
  omega
theorem ps_len {b : List Int} (hb : 0 < b.length) : ∀ (k : Nat) (q r : List Int), r.length ≤ b.length - 1 + k → (ps b (lead b) k q r).2.length ≤ b.length - 1
 | 0, q, r, h => by simpa [ps] using h
 | i + 1, q, r, h => by
  rw [ps]
  exact ps_len hb i _ _ (psr_len hb (by omega))
theorem ps_Cn {b : List Int} {c : Int} : ∀ (k : Nat) (q r : List Int), Cn q → Cn r → Cn (ps b c k q r).1 ∧ Cn (ps b c k q r).2
 | 0, q, r, h1, h2 => ⟨h1, h2⟩
 | i + 1, q, r, _, _ => by rw [ps]; exact ps_Cn i _ _ (Cn.padd _ _) (Cn.psub _ _)
theorem lead_bd {b s n : Nat} {x : List Int} (h : Bd b s n x) : sz b (lead x) ≤ s := h.nth _
theorem Bd.stp {b s : Nat} {x : Int} (h : Pm.sz b x ≤ s) (i : Nat) : Bd b s (i + 1) (Pm.stp i x) := ⟨by simp [Pm.stp], fun c hc => by
 simp only [Pm.stp, List.mem_append, List.mem_replicate, List.mem_singleton] at hc
 rcases hc with ⟨_, rfl⟩ | rfl
 ·rw [sz_zero]; omega
 ·exact h⟩
theorem psx_bd {b s n i : Nat} {y r : List Int} (h : Bd b s n r) : sz b (psx y r i) ≤ s := by
 rw [psx]; split
 ·exact lead_bd h
 ·rw [sz_zero]; omega
theorem ps_step_bd {B s s' N i : Nat} {b q r : List Int} (hB : 2 ≤ B) (hb : Bd B s' N b) (hq : Bd B s (N + N) q) (hr : Bd B s (N + N) r) (hi : i < N) :
  Bd B (s + s' + N + 1) (N + N) (psq (lead b) (psx b r i) i q) ∧ Bd B (s + s' + N + 1) (N + N) (psr b (lead b) (psx b r i) i r) := by
 have hc := lead_bd hb
 have hx := psx_bd (y := b) (i := i) hr
 have hs := Bd.stp hx i
 constructor
 ·exact (Bd.padd hB ((hq.pscale hB hc).mono (s' := s + s') (n' := N + N) (by omega) (by omega)) (hs.mono (by omega) (by omega))).mono (by omega) (by omega)
 ·exact (Bd.psub hB ((hr.pscale hB hc).mono (s' := s + s' + N) (n' := N + N) (by omega) (by omega)) ((hs.pmul hB hb).mono (by omega) (by omega))).mono (by omega) (by omega)
theorem ps_bd {B s' N : Nat} {b : List Int} (hB : 2 ≤ B) (hb : Bd B s' N b) : ∀ (k s : Nat) (q r : List Int), k ≤ N → Bd B s (N + N) q → Bd B s (N + N) r → Bd B (s + k * (s' + N + 1)) (N + N) (ps b (lead b) k q r).1 ∧ Bd B (s + k * (s' + N + 1)) (N + N) (ps b (lead b) k q r).2
 | 0, s, q, r, _, hq, hr => ⟨hq.mono (by omega) (by omega), hr.mono (by omega) (by omega)⟩
 | i + 1, s, q, r, hk, hq, hr => by
  obtain ⟨h1, h2⟩ := ps_step_bd hB hb hq hr (show i < N by omega)
  obtain ⟨h3, h4⟩ := ps_bd hB hb i (s + s' + N + 1) _ _ (by omega) h1 h2
  rw [ps, Nat.add_mul, Nat.one_mul]
  exact ⟨h3.mono (by omega) (by omega), h4.mono (by omega) (by omega)⟩
def psk (a b : List Int) : Nat := a.length + 1 - b.length
def pdm (a b : List Int) : List Int × List Int := ps b (lead b) (psk a b) [] a
theorem V_pdm (t : Int) (a b : List Int) : V t (pdm a b).1 * V t b + V t (pdm a b).2 = lead b ^ psk a b * V t a := by
 rw [pdm, V_ps]; simp [V]
theorem pdm_len {a b : List Int} (hb : 0 < b.length) : (pdm a b).2.length ≤ b.length - 1 := ps_len hb _ _ _ (by unfold psk; omega)
theorem pdm_Cn {a b : List Int} (ha : Cn a) : Cn (pdm a b).1 ∧ Cn (pdm a b).2 := ps_Cn _ _ _ Cn.nil ha
end Pm
namespace Pm
theorem padd_len (x y : List Int) : (padd x y).length ≤ max x.length y.length := Nat.le_trans (cutR_len _) (by simp)
theorem pmul0_len : ∀ (x y : List Int), 0 < y.length → (pmul0 x y).length ≤ x.length + y.length - 1
 | [], y, _ => by simp [pmul0]
 | a :: x, y, h => by
  have ih := pmul0_len x y h
  have h1 := padd_len (y.map fun c => c * a) (0 :: pmul0 x y)
  simp only [List.length_map, List.length_cons] at h1
  rw [pmul0]
  simp only [List.length_cons]
  omega
theorem pmul_len {x y : List Int} (h : 0 < y.length) : (pmul x y).length ≤ x.length + y.length - 1 := Nat.le_trans (cutR_len _) (pmul0_len x y h)
theorem pmul_nil (x : List Int) : pmul x [] = [] := Cn.ext (Cn.pmul _ _) Cn.nil fun t => by rw [V_pmul]; simp [V]
theorem pmul_top {x y : List Int} (cx : Cn x) (cy : Cn y) (hx : 0 < x.length) (hy : 0 < y.length) : ∃ w : List Int, w.length = x.length + y.length - 2 ∧ pmul x y = w ++ [lead x * lead y] := by
 have lx := lead_ne cx hx
 have ly := lead_ne cy hy
 obtain ⟨u, hu⟩ : ∃ u, u = padd (pmul (y.take (y.length - 1)) x) (pmul (stp (y.length - 1) (lead y)) (x.take (x.length - 1))) := ⟨_, rfl⟩
 have hul : u.length ≤ x.length + y.length - 2 := by
  have h1 := pmul_len (x := y.take (y.length - 1)) (y := x) hx
  rw [List.length_take] at h1
  have h2 : (pmul (stp (y.length - 1) (lead y)) (x.take (x.length - 1))).length ≤ x.length + y.length - 2 := by
   rcases Nat.eq_zero_or_pos (x.take (x.length - 1)).length with h | h
   ·have : x.take (x.length - 1) = [] := List.eq_nil_of_length_eq_zero h
    rw [this, pmul_nil]; simp
   ·have := pmul_len (x := stp (y.length - 1) (lead y)) h
    simp only [stp, List.length_append, List.length_replicate, List.length_singleton, List.length_take] at this ⊢
    omega
  have h3 := padd_len (pmul (y.take (y.length - 1)) x) (pmul (stp (y.length - 1) (lead y)) (x.take (x.length - 1)))
  rw [← hu] at h3
  omega
 refine ⟨(List.range (x.length + y.length - 2)).map (nth u), by simp, ?_⟩
 have hne : lead x * lead y ≠ 0 := Int.mul_ne_zero lx ly
 refine Cn.ext (Cn.pmul _ _) (cutR_ne hne _) fun t => ?_
 rw [V_append, V_range_nth hul, V_one, hu, V_padd, V_pmul, V_pmul, V_pmul, V_stp, V_lead hx, V_lead hy]
 simp only [List.length_map, List.length_range]
 rw [show x.length + y.length - 2 = (x.length - 1) + (y.length - 1) by omega, Int.pow_add]
 grind
theorem pmul_len_eq {x y : List Int} (cx : Cn x) (cy : Cn y) (hx : 0 < x.length) (hy : 0 < y.length) : (pmul x y).length = x.length + y.length - 1 := by
 obtain ⟨w, h1, h2⟩ := pmul_top cx cy hx hy
 rw [h2, List.length_append, h1, List.length_singleton]; omega
theorem pmul_lead {x y : List Int} (cx : Cn x) (cy : Cn y) (hx : 0 < x.length) (hy : 0 < y.length) : lead (pmul x y) = lead x * lead y := by
 obtain ⟨w, h1, h2⟩ := pmul_top cx cy hx hy
 rw [h2, lead, List.length_append, List.length_singleton, Nat.add_sub_cancel, nth_eq (by simp)]
 simp
theorem mul_small {u y h : List Int} (cu : Cn u) (cy : Cn y) (hy : 0 < y.length) (e : ∀ t, V t u = V t y * V t h) (hl : u.length < y.length) : u = [] := by
 have e2 : u = pmul y (cutR h) := Cn.ext cu (Cn.pmul _ _) fun t => by rw [V_pmul, V_cutR, e t]
 rcases Nat.eq_zero_or_pos (cutR h).length with h0 | h0
 ·have : cutR h = [] := List.eq_nil_of_length_eq_zero h0
  rw [e2, this, pmul_nil]
 ·have := pmul_len_eq cy (Cn.cut h) hy h0
  rw [← e2] at this; omega
end Pm
namespace Pm
theorem nth_nilI (i : Nat) : nth ([] : List Int) i = 0 := nth_ge (by simp)
theorem nth_cons0 (a : Int) (l : List Int) : nth (a :: l) 0 = a := rfl
theorem nth_consS (a : Int) (l : List Int) (i : Nat) : nth (a :: l) (i + 1) = nth l i := by simp [nth]
theorem nth_cutR : ∀ (x : List Int) (i : Nat), nth (cutR x) i = nth x i
 | [], i => rfl
 | a :: l, i => by
  rw [cutR]
  split
  ·rename_i h
   cases i with
   | zero => rw [nth_nilI, nth_cons0, h.2]
   | succ i => rw [nth_consS, ← nth_cutR l i, h.1, nth_nilI, nth_nilI]
  ·cases i with
   | zero => rfl
   | succ i => rw [nth_consS, nth_consS, nth_cutR l i]
theorem nth_padd (x y : List Int) (i : Nat) : nth (padd x y) i = nth x i + nth y i := by
 rw [padd, nth_cutR]
 rcases Nat.lt_or_ge i (max x.length y.length) with h | h
 ·rw [nth_eq (by simpa using h)]; simp
 ·rw [nth_ge (by simpa using h), nth_ge (l := x) (by omega), nth_ge (l := y) (by omega)]; rfl
theorem nth_mapmul (c : Int) (x : List Int) (i : Nat) : nth (x.map (· * c)) i = nth x i * c := nth_map (f := fun v => v * c) (Int.zero_mul c) x i
theorem nth_pscale (c : Int) (x : List Int) (i : Nat) : nth (pscale x c) i = nth x i * c := by rw [pscale, nth_cutR]; exact nth_mapmul c x i
theorem nth_pmul_cons0 (k : Int) (x y : List Int) : nth (pmul (k :: x) y) 0 = nth y 0 * k := by
 rw [pmul, nth_cutR, pmul0, nth_padd, nth_cons0, nth_mapmul, Int.add_zero]
theorem nth_pmul_consS (k : Int) (x y : List Int) (i : Nat) : nth (pmul (k :: x) y) (i + 1) = nth y (i + 1) * k + nth (pmul x y) i := by
 rw [pmul, nth_cutR, pmul0, nth_padd, nth_consS, nth_mapmul, pmul, nth_cutR]
theorem pmul_comm (x y : List Int) : pmul x y = pmul y x := Cn.ext (Cn.pmul _ _) (Cn.pmul _ _) fun t => by rw [V_pmul, V_pmul, Int.mul_comm]
def Dv (d : Nat) (x : List Int) : Prop := ∀ i, (d : Int) ∣ nth x i
theorem Dv.mem {d : Nat} {x : List Int} (h : Dv d x) : ∀ c ∈ x, (d : Int) ∣ c := fun c hc => by
 obtain ⟨i, hi, rfl⟩ := List.getElem_of_mem hc
 rw [← nth_eq hi]; exact h i
theorem Dv.of {d : Nat} {x : List Int} (h : ∀ c ∈ x, (d : Int) ∣ c) : Dv d x := fun i => by
 rcases Nat.lt_or_ge i x.length with h1 | h1
 ·exact h _ (nth_mem h1)
 ·rw [nth_ge h1]; exact Int.dvd_zero _
theorem Dv.cons {d : Nat} {k : Int} {x : List Int} (h1 : (d : Int) ∣ k) (h2 : Dv d x) : Dv d (k :: x) := fun i => by
 cases i with
 | zero => exact h1
 | succ i => rw [nth_consS]; exact h2 i
theorem Dv.nil (d : Nat) : Dv d [] := fun i => by rw [nth_nilI]; exact Int.dvd_zero _
theorem Dv.trans {d e : Nat} {x : List Int} (h : e ∣ d) (h2 : Dv d x) : Dv e x := fun i => Int.dvd_trans (Int.ofNat_dvd.2 h) (h2 i)
theorem gauss : ∀ (n d : Nat) (x y : List Int), d + x.length + y.length ≤ n → 0 < d → Dv d (pmul x y) → (∀ e : Nat, e ∣ d → Dv e y → e = 1) → Dv d x
 | n, d, [], y, _, _, _, _ => Dv.nil d
 | n, d, k :: x, [], _, _, _, h => by
  have := h d (Nat.dvd_refl d) (Dv.nil d)
  subst this
  exact fun i => Int.one_dvd _
 | 0, d, k :: x, l :: y, hn, _, _, _ => by simp at hn
 | n + 1, d, k :: x, l :: y, hn, hd, hp, h => by
  simp only [List.length_cons] at hn
  have h0 := hp 0
  rw [nth_pmul_cons0, nth_cons0] at h0
  obtain ⟨g, hg⟩ : ∃ g, g = Nat.gcd d l.natAbs := ⟨_, rfl⟩
  have gd : g ∣ d := by rw [hg]; exact Nat.gcd_dvd_left _ _
  have gl : (g : Int) ∣ l := by rw [hg]; exact Int.ofNat_dvd_left.2 (Nat.gcd_dvd_right _ _)
  have g0 : 0 < g := Nat.pos_of_dvd_of_pos gd hd
  have gle : g ≤ d := Nat.le_of_dvd hd gd
  by_cases g1 : g = 1
  ·have hk : (d : Int) ∣ k := by
    have h1 : d ∣ (l * k).natAbs := Int.ofNat_dvd_left.1 h0
    rw [Int.natAbs_mul] at h1
    exact Int.ofNat_dvd_left.2 (Nat.Coprime.dvd_of_dvd_mul_left (show Nat.gcd d l.natAbs = 1 by omega) h1)
   refine Dv.cons hk (gauss n d x (l :: y) (by simp only [List.length_cons]; omega) hd (fun i => ?_) h)
   have h1 := hp (i + 1)
   rw [nth_pmul_consS] at h1
   exact (Int.dvd_add_right (Int.dvd_trans hk (Int.dvd_mul_left _ _))).1 h1
  ·have hgx : Dv g (k :: x) := by
    refine gauss n g (k :: x) y (by simp only [List.length_cons]; omega) g0 (fun i => ?_) (fun e he hy => h e (Nat.dvd_trans he gd) (Dv.cons (Int.dvd_trans (Int.ofNat_dvd.2 he) gl) hy))
    have h1 := Dv.trans gd hp (i + 1)
    rw [pmul_comm, nth_pmul_consS, pmul_comm y] at h1
    exact (Int.dvd_add_right (Int.dvd_trans gl (Int.dvd_mul_left _ _))).1 h1
   obtain ⟨d', rfl⟩ := gd
   have hd' : 0 < d' := Nat.pos_of_mul_pos_left hd
   have hlt : d' < g * d' := by
    have : 2 * d' ≤ g * d' := Nat.mul_le_mul_right _ (by omega)
    omega
   obtain ⟨x', hx'⟩ : ∃ x' : List Int, x' = (k :: x).map (· / (g : Int)) := ⟨_, rfl⟩
   have hxe : x'.map (· * (g : Int)) = k :: x := by
    rw [hx', List.map_map]
    refine (List.map_congr_left fun v hv => ?_).trans (List.map_id _)
    exact Int.ediv_mul_cancel (hgx.mem v hv)
   have hxl : x'.length = x.length + 1 := by rw [hx']; simp
   have hpe : pmul (k :: x) (l :: y) = pscale (pmul x' (l :: y)) g := Cn.ext (Cn.pmul _ _) (Cn.pscale _ _) fun t => by
    have := V_map_mul (t := t) (g : Int) id x'
    simp only [id_eq, List.map_id_fun] at this
    rw [V_pscale, V_pmul, V_pmul, ← hxe, this]; grind
   have ih := gauss n d' x' (l :: y) (by simp only [List.length_cons]; omega) hd' (fun i => by
    have h1 := hp i
    rw [hpe, nth_pscale, Int.natCast_mul, Int.mul_comm] at h1
    exact Int.dvd_of_mul_dvd_mul_right (by omega) h1) (fun e he => h e (Nat.dvd_trans he (Nat.dvd_mul_left _ _)))
   rw [← hxe]
   intro i
   rw [nth_mapmul, Int.natCast_mul, Int.mul_comm]
   exact Int.mul_dvd_mul (ih i) (Int.dvd_refl _)
termination_by n _ x y => n
end Pm
