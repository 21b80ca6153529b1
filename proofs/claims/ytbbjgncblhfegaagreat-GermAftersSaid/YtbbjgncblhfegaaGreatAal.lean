import Derived.Test.YtbbjgncblhfegaaGreatAaf
import Derived.Test.YtbbjgncblhfegaaGreatAak
set_option linter.unusedSimpArgs false
set_option linter.unusedVariables false
namespace Go.Proofs.YtbbjgncblhfegaaGreat
open Go Pm
theorem ad9 (x : List Int) : k7 (x.map rC) = aM x := by simp only [k7, bP]
theorem jZ {x : List Int} (hx : Cn x) {m : Int} (hm : m ≠ 0) : Cn (x.map (· * m)) := by
 rcases Nat.eq_zero_or_pos x.length with h | h
 ·have : x = [] := List.eq_nil_of_length_eq_zero h
  subst this; rfl
 ·have e := r9 h
  have : x.map (· * m) = (x.take (x.length - 1)).map (· * m) ++ [lead x * m] := by
   conv => lhs; rw [e]
   simp
  rw [this]
  exact fP (Int.mul_ne_zero (cD hx h) hm) _
theorem qQ {x : List Int} (hx : Cn x) {m : Int} (hm : m ≠ 0) : aV x m = x.map (· * m) := jZ hx hm
theorem NO {x : List Int} (hx : Cn x) : aV x 1 = x := Cn.ext (Cn.aV _ _) hx fun t => by rw [bV]; omega
theorem NP (x : List Int) : fJ x = aV x (-1) := Cn.ext (Cn.fJ _) (Cn.aV _ _) fun t => by rw [zA, bV]; omega
theorem j0 (m : Int) (x : List Int) : bG (x.map (· * m)) = bG x * m.natAbs := by
 have key : ∀ (l : List Int) (g : Nat), (l.map (· * m)).foldl (fun g c => Nat.gcd g c.natAbs) (g * m.natAbs) = l.foldl (fun g c => Nat.gcd g c.natAbs) g * m.natAbs := by
  intro l
  induction l with
  | nil => intro g; rfl
  | cons c l ih =>
   intro g
   simp only [List.map_cons, List.foldl_cons]
   rw [Int.natAbs_mul, Nat.gcd_mul_right, ih]
 have := key x 0
 rw [Nat.zero_mul] at this
 exact this
theorem UP {m : Int} (hm : 0 < m) (g v : Int) : oZ (g * m) (v * m) = oZ g v := by
 unfold oZ
 rw [Int.mul_comm v, Int.mul_comm g, Int.mul_emod_mul_of_pos _ _ hm, Int.mul_ediv_mul_of_pos _ _ hm]
 have : m * (v % g) = 0 ↔ v % g = 0 := by
  constructor
  ·intro h
   rcases Int.mul_eq_zero.1 h with h | h
   ·omega
   ·exact h
  ·intro h; rw [h]; simp
 simp only [this]
theorem NQ {m : Int} (hm : 0 < m) (x : List Int) : iX (x.map (· * m)) = iX x := by
 unfold iX
 rw [j0, List.map_map]
 congr 1
 refine List.map_congr_left fun v _ => ?_
 simp only [Function.comp_apply]
 have : ((bG x * m.natAbs : Nat) : Int) = (bG x : Int) * m := by rw [Int.natCast_mul]; congr 1; omega
 rw [this, UP hm]
theorem wP {x : List Int} (hx : Cn x) {m : Int} (hm : 0 < m) : iX (aV x m) = iX x := by rw [qQ hx (by omega), NQ hm]
def sg (c : Int) (k : Nat) : Int := if k % 2 = 1 ∧ c < 0 then -1 else 1
theorem Z6 (c : Int) : ∀ k : Nat, c ^ k = sg c k * (c.natAbs : Int) ^ k
 | 0 => by simp [sg]
 | k + 1 => by
  have ih := Z6 c k
  have hc : c = (if c < 0 then -1 else 1) * (c.natAbs : Int) := by split <;> omega
  have hs : sg c (k + 1) = sg c k * (if c < 0 then -1 else 1) := by
   unfold sg
   by_cases h : c < 0
   ·rcases Nat.mod_two_eq_zero_or_one k with h2 | h2
    ·rw [if_pos ⟨by omega, h⟩, if_neg (by omega), if_pos h]; rfl
    ·rw [if_neg (by omega), if_pos ⟨h2, h⟩, if_pos h]; rfl
   ·rw [if_neg (fun h2 => h h2.2), if_neg (fun h2 => h h2.2), if_neg h]; rfl
  rw [Int.pow_succ, Int.pow_succ, ih, hs]
  conv => lhs; rw [hc]
  generalize (if c < 0 then (-1 : Int) else 1) = e at *
  have e3 : ((e * (c.natAbs : Int)).natAbs : Int) = (c.natAbs : Int) := by rw [← hc]
  rw [e3]
  grind
theorem Z7 (c : Int) (k : Nat) : sg c k * sg c k = 1 := by unfold sg; split <;> rfl
theorem Z8 {a b : List Int} (ca : Cn a) : JN a b = iX (aV (wI a b).2 (sg (lead b) (iH a b))) := by
 have cr := (zD (b := b) ca).2
 unfold JN sg
 split
 ·rw [NP]
 ·rw [NO cr]
theorem kE (x : List Int) : (iX x).length ≤ x.length := Nat.le_trans (bM _) (by simp)
theorem JQ (x : List Int) : (fJ x).length ≤ x.length := Nat.le_trans (bM _) (by simp)
theorem aea {a b : List Int} (hb : 0 < b.length) : (JN a b).length < b.length := by
 have h1 := FC (a := a) hb
 unfold JN
 split
 ·have h2 := kE (fJ (wI a b).2)
  have h3 := JQ (wI a b).2
  omega
 ·have h2 := kE (wI a b).2
  omega
theorem ajG (a b : List Int) : Cn (JN a b) := by unfold JN; split <;> exact Cn.cut _
def Z9 (b : List Int) : Nat → List Int → List Int → Option (List Int × List Int)
 | 0, q, a => some (q, a)
 | i + 1, q, a => if a.length < b.length + i then Z9 b i q a else if lead a % lead b = 0 then Z9 b i (q.set i (lead a / lead b)) (dY a (bH (oT i (lead a / lead b)) b)) else none
def exF : Option (List Int × List Int) → Option (List Int)
 | some (q, []) => some (aM q)
 | _ => none
def exact (a b : List Int) : Option (List Int) := exF (Z9 b (iH a b) (List.replicate (iH a b) 0) a)
def exR (o : Option (List Int)) : PV :=
 match o with
 | some q => .eP [Po q, .int .i64 0]
 | none => .eP [Po [], .int .i64 3]
theorem Bd.set {B s n : Nat} {x : List Int} (h : Bd B s n x) {i : Nat} {v : Int} (hv : Pm.sz B v ≤ s) : Bd B s n (x.set i v) := ⟨by simpa using h.len, fun c hc => by
 rcases List.mem_or_eq_of_mem_set hc with h1 | h1
 ·exact h.sz c h1
 ·rw [h1]; exact hv⟩
theorem UQ (a b : RP) {s s' N : Nat} (ha : rD a) (hb : rD b) (sa : Bd LL s N (a.map gv)) (sb : Bd LL s' N (b.map gv)) (hB : s + N * (s' + N + 1) + s' + N + N + 10 < 1099511627774) :
  aI env.P 225 [Pg a, Pg b] (if k7 b = [] then .eP [Po [], .int .i64 2] else exR (exact (k7 a) (k7 b))) := by
 have hA : Bd LL s N (k7 a) := sa.cut
 have QM : Bd LL s' N (k7 b) := sb.cut
 have ca : Cn (k7 a) := Cn.cut _
 have cb : Cn (k7 b) := Cn.cut _
 have na := gI a ha
 have nb := gI b hb
 rw [show aM (a.map gv) = k7 a from rfl] at na
 rw [show aM (b.map gv) = k7 b from rfl] at nb
 refine aB (E := env) (fun _ => 0) [(0, Pg a), (1, Pg b)] Tryz.func225 rfl (by kernel_rfl) (by kernel_rfl) (show 2 ≤ 71 by decide) (by simp) ?_
 generalize k7 a = x at *
 generalize k7 b = y at *
 refine W.sr ?_; simp (disch := omega) [gw]; refine W.lx [0, 1] ?_; simp
 refine W.sr ?_
 simp (disch := omega) [gw]
 refine aA na ?_
 simp (disch := omega) [gw]
 refine aA nb ?_
 simp (disch := omega) [gw]
 refine W.lx [0, 1] ?_; simp
 refine W.seq ?_
 refine W.sr ?_; simp (disch := omega) [gw]; refine W.lx [0, 1, 17] ?_; simp
 refine W.cond ⟨_, rfl, fun h => ?_, fun h => ?_⟩
 ·have h : y = [] := by simp at h; exact h
  rw [if_pos h]
  refine W.sr ?_; simp (disch := omega) [gw]; refine W.lx [4, 5] ?_; simp
  refine W.ret ?_
  simp [go]
  rfl
 have hy : y ≠ [] := by simp at h; exact h
 clear h
 rw [if_neg hy]
 have NA : 0 < y.length := List.length_pos_iff.2 hy
 have hNx := hA.len
 have hNy := QM.len
 have hsy := eT QM
 have hly := cD cb NA
 have hL := jY (PB.of QM (by omega) (by omega)) cb
 have hDy := lK y (by omega)
 have hkN : iH x y ≤ N := by unfold iH; omega
 generalize hdd : s' + N + 1 = d at *
 have Z4 : ∀ j, j ≤ N → (N - j) * d ≤ N * d := fun j _ => Nat.mul_le_mul_right _ (by omega)
 have hkk : (if (0 : Int) < (x.length : Int) - (y.length : Int) + 1 then (x.length : Int) - (y.length : Int) + 1 else 0) = (iH x y : Int) := by unfold iH; split <;> omega
 refine W.skip ?_
 refine W.sr ?_
 simp (disch := omega) [gw, hkk]
 refine W.lx [0, 1, 6] ?_; simp
 refine W.row (id := 25) (emap ie (List.replicate (iH x y) 0)) (by simp; exact ⟨rfl, rfl, rfl⟩) (pQ _) ?_
 refine W.seq ?_
 refine W.sr ?_; simp (disch := omega) [gw]; refine W.lx [0, 1, 6, 7] ?_; simp
 refine W.block ?_
 obtain ⟨R0, HN⟩ : ∃ R0, R0 = Z9 y (iH x y) (List.replicate (iH x y) 0) x := ⟨_, rfl⟩
 have hex : exact x y = exF R0 := by rw [HN]; rfl
 rw [hex]
 clear hex
 generalize wL : iH x y = k0 at *
 refine W.a9 (fun j σ => ∃ (v6 : Nat) (z r : List Int) (rows : Pm.Rows) (clk : Nat), σ = ⟨fa [(0, Po r), (1, Po y), (6, .own 25 v6 0 k0), (7, .int .i64 ((j : Int) - 1))], rows, clk⟩ ∧
  rows 25 = some ⟨v6, 40, 2, emap ie z⟩ ∧ z.length = k0 ∧ j ≤ k0 ∧ Z9 y j z r = R0 ∧ Bd LL (s + (N - j) * d) (N + N) z ∧ Bd LL (s + (N - j) * d) (N + N) r ∧ Cn r) k0 ?_ ?_
 ·exact ⟨_, .refl, _, List.replicate k0 0, x, _, _, rfl, by simp, by simp, by omega, HN.symm, ⟨by simp; omega, fun c hc => by rw [(List.mem_replicate.1 hc).2, jA]; omega⟩, hA.mono (by omega) (by omega), ca⟩
 rintro j _ ⟨v6, z, r, rows, clk, rfl, aaa, hz, hj, wO, bz, br, cr⟩
 refine W.seq ?_
 refine W.sr ?_; simp (disch := omega) [gw]; refine W.lx [0, 1, 6, 7, 30] ?_; simp
 refine W.cond ⟨_, rfl, fun h => ?_, fun h => ?_⟩
 ·have hj0 : 0 < j := by simp at h; omega
  obtain ⟨i, rfl⟩ : ∃ i, j = i + 1 := ⟨j - 1, by omega⟩
  clear h
  have ei : ((i + 1 : Nat) : Int) - 1 = i := by omega
  rw [ei]
  have hN1 := Z4 (i + 1) (by omega)
  have JM := Z4 i (by omega)
  have hT : s + (N - i) * d = s + (N - (i + 1)) * d + s' + N + 1 := by
   rw [show N - i = (N - (i + 1)) + 1 by omega, Nat.add_mul, Nat.one_mul]; omega
  have hDr := lK r (by have := br.len; omega)
  have hLr := jY (PB.of br (by omega) (by omega)) cr
  have hlr := eT br
  rw [Z9] at wO
  refine W.skip ?_
  refine W.eM (fun σ => ∃ (z r : List Int) (rows : Pm.Rows) (clk : Nat), σ = ⟨fa [(0, Po r), (1, Po y), (6, .own 25 v6 0 k0), (7, .int .i64 i)], rows, clk⟩ ∧
   rows 25 = some ⟨v6, 40, 2, emap ie z⟩ ∧ z.length = k0 ∧ Z9 y i z r = R0 ∧ Bd LL (s + (N - i) * d) (N + N) z ∧ Bd LL (s + (N - i) * d) (N + N) r ∧ Cn r) ?_ ?_
  ·
   refine W.seq ?_
   refine W.sr ?_
   simp (disch := omega) [gw]
   refine aA hDr ?_
   simp (disch := omega) [gw]
   refine aA hDy ?_
   simp (disch := omega) [gw]
   refine W.lx [0, 1, 6, 7, 39] ?_; simp
   by_cases hlen : r.length < y.length + i
   ·rw [if_pos hlen] at wO
    refine W.cond ⟨_, rfl, fun h => ?_, fun h => ?_⟩
    ·refine W.exit ?_; simp only [pX, if_true, if_false, reduceIte, Nat.reduceEqDiff]
     exact ⟨_, aC _ [0, 1, 6, 7], z, r, _, _, rfl, aaa, hz, wO, bz.mono (by omega) (by omega), br.mono (by omega) (by omega), cr⟩
    ·exfalso; simp at h; omega
   rw [if_neg hlen] at wO
   refine W.cond ⟨_, rfl, fun h => ?_, fun h => ?_⟩
   ·exfalso; simp at h; omega
   clear h
   have hE := FM (v := lead r) (c := lead y) (by omega) (by omega) hly
   refine W.skip ?_
   by_cases ZH : lead r % lead y = 0
   ·rw [if_pos ZH] at hE wO
    have hts : sz LL (lead r / lead y) ≤ s + (N - (i + 1)) * d := Nat.le_trans (cC fS (Int.natAbs_ediv_le_natAbs _ _)) hlr
    have bs := Bd.oT hts i
    have bm := bs.bH fS QM
    have b2 : Bd LL (s + (N - i) * d) (N + N) (dY r (bH (oT i (lead r / lead y)) y)) := (Bd.dY fS (br.mono (s' := s + (N - (i + 1)) * d + s' + N) (n' := N + N) (by omega) (by omega)) (bm.mono (by omega) (by omega))).mono (by omega) (by omega)
    have f4 := u9 bs QM (by omega)
    have f5 := DI (PB.of br (by omega) (by omega)) (PB.of bm (by omega) (by omega))
    have cr2 : Cn (dY r (bH (oT i (lead r / lead y)) y)) := Cn.dY _ _
    have bz2 := Bd.set (i := i) (bz.mono (s' := s + (N - i) * d) (n' := N + N) (by omega) (by omega)) (Nat.le_trans hts (by omega))
    generalize cI : dY r (bH (oT i (lead r / lead y)) y) = r2 at *
    generalize bH (oT i (lead r / lead y)) y = pm at *
    generalize lead r / lead y = tt at *
    have Z5 := pU i tt
    have ajE : (oT i tt).length = i + 1 := by simp [oT]
    have lR := bE ajE
    generalize lead r = lr at *
    generalize lead y = ly at *
    refine W.sr ?_
    simp (disch := omega) [gw]
    refine aA hLr ?_
    simp (disch := omega) [gw]
    refine aA hL ?_
    simp (disch := omega) [gw]
    refine aA hE ?_
    simp (disch := omega) [gw]
    refine W.lx [0, 1, 6, 7, 8, 9] ?_; simp
    refine W.seq ?_
    refine W.sr ?_; simp (disch := omega) [gw]; refine W.lx [0, 1, 6, 7, 8, 49] ?_; simp
    refine W.cond ⟨_, rfl, fun h => ?_, fun h => ?_⟩
    ·cases h
    refine W.skip ?_
    refine W.sr ?_
    simp (disch := omega) [gw, aaa, hz]
    refine W.lx [0, 1, 6, 7, 8] ?_; simp
    have e9 : ((i : Int) + 1).toNat = i + 1 := by omega
    refine W.sr ?_; simp (disch := omega) [gw, e9]; refine W.lx [0, 1, 6, 7, 8, 10] ?_; simp
    refine W.row (id := 56) (emap ie (List.replicate (i + 1) 0)) (by simp; exact ⟨rfl, rfl, rfl⟩) (pQ _) ?_
    refine W.sr ?_
    simp (disch := omega) [gw, Z5]
    refine W.lx [0, 1, 6, 7, 10] ?_; simp
    refine W.freeze 56 (by simp) (fun K hK => ?_)
    simp [lR]
    refine hK _ ?_; clear hK K
    refine W.b8 (fun K hK => ?_)
    simp (disch := omega) [gw]
    refine aA f4 ?_
    simp (disch := omega) [gw]
    refine aA f5 ?_
    simp (disch := omega) [gw]
    exact hK _ ⟨_, aC _ [0, 1, 6, 7], z.set i tt, r2, _, _, rfl, by simp, by simp [hz], wO, bz2, b2, cr2⟩
   ·rw [if_neg ZH] at hE wO
    subst wO
    refine W.sr ?_
    simp (disch := omega) [gw]
    refine aA hLr ?_
    simp (disch := omega) [gw]
    refine aA hL ?_
    simp (disch := omega) [gw]
    refine aA hE ?_
    simp (disch := omega) [gw]
    refine W.lx [0, 1, 6, 7, 8, 9] ?_; simp
    refine W.seq ?_
    refine W.sr ?_; simp (disch := omega) [gw]; refine W.lx [0, 1, 6, 7, 8, 49] ?_; simp
    refine W.cond ⟨_, rfl, fun h => ?_, fun h => ?_⟩
    ·refine W.sr ?_; simp (disch := omega) [gw]; refine W.lx [4, 5] ?_; simp
     refine W.ret ?_
     simp [go, exR, exF]
     rfl
    ·cases h
  rintro _ ⟨z, r, rows, clk, rfl, aaa, hz, wO, bz, br, cr⟩
  refine W.b8 (fun K hK => ?_); simp (disch := omega) [gw]
  refine hK _ ⟨i, _, aC _ [0, 1, 6, 7], by omega, v6, z, r, _, _, rfl, by simp [aaa], hz, by omega, wO, bz, br, cr⟩
 ·have hj0 : j = 0 := by simp at h; omega
  subst hj0
  simp only [Z9] at wO
  rw [← wO]
  have hN0 := Z4 0 (by omega)
  have hzn := fG (PB.of bz (by omega) (by omega))
  have hzz := bE hz
  refine W.exit ?_; simp only [pX, if_true, if_false, reduceIte, Nat.reduceEqDiff]
  refine W.seq ?_
  refine W.sr ?_; simp (disch := omega) [gw]; refine W.lx [6, 68] ?_; simp
  cases r with
  | nil =>
   refine W.cond ⟨_, rfl, fun h => ?_, fun h => ?_⟩
   ·exfalso; simp at h
   refine W.skip ?_
   refine W.sr ?_
   simp (disch := omega) [gw, aaa, hzz]
   refine aA hzn ?_
   simp (disch := omega) [gw]
   refine W.lx [4, 5] ?_; simp
   refine W.ret ?_
   simp [go, exR, exF]
  | cons c r =>
   refine W.cond ⟨_, rfl, fun h => ?_, fun h => ?_⟩
   ·refine W.sr ?_; simp (disch := omega) [gw]; refine W.lx [4, 5] ?_; simp
    refine W.ret ?_
    simp [go, exR, exF]
    rfl
   ·exfalso; simp at h
theorem z5 {d : Nat} {x : List Int} (h : ∀ c ∈ x, (d : Int) ∣ c) : d ∣ bG x := by
 have key : ∀ (l : List Int) (g : Nat), d ∣ g → (∀ c ∈ l, (d : Int) ∣ c) → d ∣ l.foldl (fun g c => Nat.gcd g c.natAbs) g := by
  intro l
  induction l with
  | nil => intro g hg _; exact hg
  | cons c l ih =>
   intro g hg hl
   rw [List.foldl_cons]
   exact ih _ (Nat.dvd_gcd hg (Int.ofNat_dvd_left.1 (hl c (by simp)))) fun v hv => hl v (by simp [hv])
 exact key x 0 (Nat.dvd_zero d) h
theorem xP {x : List Int} {g : Int} (h : ∀ c ∈ x, g ∣ c) : (x.map (oZ g)).map (· * g) = x := by
 rw [List.map_map]
 refine (List.map_congr_left fun v hv => ?_).trans (List.map_id _)
 have h1 : v % g = 0 := Int.emod_eq_zero_of_dvd (h v hv)
 simp only [Function.comp_apply, oZ, id_eq]
 rw [if_pos h1]
 exact Int.ediv_mul_cancel (h v hv)
theorem vA {x y : List Int} {g : Int} (hg : g ≠ 0) (h : y.map (· * g) = x) (e : bG x = g.natAbs) : bG y = 1 := by
 have := j0 g y
 rw [h, e] at this
 exact Nat.eq_of_mul_eq_mul_right (show 0 < g.natAbs by omega) (by omega)
theorem c8 (t : Int) (g : Int) (x : List Int) : V t (x.map (· * g)) = V t x * g := by
 have := fM (t := t) g id x
 simp only [id_eq, List.map_id_fun] at this
 exact this
theorem aab {x y : List Int} (cx : Cn x) (cy : Cn y) (hx : x ≠ []) (hy : y ≠ []) : bG (bH x y) = bG x * bG y := by
 have gx := bW cx hx
 have gy := bW cy hy
 have hp : bG (bH x y) ≠ 0 := bW (Cn.bH _ _) fun h => by
  have := iS cx cy (List.length_pos_iff.2 hx) (List.length_pos_iff.2 hy)
  rw [h] at this
  have h1 := List.length_pos_iff.2 hx
  have h2 := List.length_pos_iff.2 hy
  simp only [List.length_nil] at this
  omega
 obtain ⟨x', CJ⟩ : ∃ x' : List Int, x'.map (· * (bG x : Int)) = x := ⟨_, xP (gB x)⟩
 obtain ⟨y', BI⟩ : ∃ y' : List Int, y'.map (· * (bG y : Int)) = y := ⟨_, xP (gB y)⟩
 have px := vA (by omega) CJ (by omega)
 have py := vA (by omega) BI (by omega)
 have e : bH x y = (bH x' y').map (· * ((bG x : Int) * bG y)) := by
  rw [← qQ (Cn.bH _ _) (Int.mul_ne_zero (by omega) (by omega))]
  refine Cn.ext (Cn.bH _ _) (Cn.aV _ _) fun t => ?_
  have h1 := c8 t (bG x) x'
  have h2 := c8 t (bG y) y'
  rw [CJ] at h1
  rw [BI] at h2
  rw [cL, bV, cL, h1, h2]
  grind
 rw [e, j0] at hp
 rw [e, j0, Int.natAbs_mul]
 have hd : 0 < bG (bH x' y') := Nat.pos_of_mul_pos_right (Nat.pos_of_ne_zero hp)
 have hD := QD _ (bG (bH x' y')) x' y' (Nat.le_refl _) hd (Dv.of (gB _)) (fun d _ hy => Nat.dvd_one.1 (py ▸ z5 hy.mem))
 have h1 : bG (bH x' y') = 1 := Nat.dvd_one.1 (px ▸ z5 hD.mem)
 rw [h1, Nat.one_mul]
 simp
def j1 (x : List Int) : Int := if lead x < 0 then -(bG x : Int) else bG x
def pV (x : List Int) : List Int := aM (x.map (oZ (j1 x)))
theorem mC (x : List Int) : (j1 x).natAbs = bG x := by unfold j1; split <;> omega
theorem FN (x : List Int) : ∀ c ∈ x, j1 x ∣ c := fun c hc => by
 have := gB x c hc
 unfold j1; split
 ·exact Int.neg_dvd.2 this
 ·exact this
theorem FO {x : List Int} (cx : Cn x) (hx : x ≠ []) : (pV x).map (· * j1 x) = x := by
 have gx := bW cx hx
 have h0 := mC x
 rw [← qQ (show Cn (pV x) from Cn.cut _) (show j1 x ≠ 0 by omega)]
 refine Cn.ext (Cn.aV _ _) cx fun t => ?_
 rw [bV, pV, cA, ← c8, xP (FN x)]
theorem UR {x : List Int} (cx : Cn x) (hx : x ≠ []) : aV (pV x) (j1 x) = x := by
 have gx := bW cx hx
 have h0 := mC x
 rw [qQ (show Cn (pV x) from Cn.cut _) (show j1 x ≠ 0 by omega)]
 exact FO cx hx
theorem aeb {x : List Int} (cx : Cn x) (hx : x ≠ []) : bG (pV x) = 1 := by
 have gx := bW cx hx
 have h0 := mC x
 exact vA (by omega) (FO cx hx) h0.symm
theorem aac {x : List Int} (cx : Cn x) (hx : x ≠ []) : 0 < lead (pV x) := by
 have gx := bW cx hx
 have h := FO cx hx
 have hl : (pV x).length = x.length := by rw [← congrArg List.length h]; simp
 have nM := List.length_pos_iff.2 hx
 have h1 : lead x = lead (pV x) * j1 x := by
  rw [lead, lead, hl, ← iI, h]
 have qG := cD (x := pV x) (Cn.cut _) (by omega)
 have hg : (0 : Int) < bG x := by omega
 unfold j1 at h1
 rcases Int.lt_trichotomy (lead (pV x)) 0 with h2 | h2 | h2
 ·exfalso
  split at h1
  ·rename_i h3
   have := Int.mul_pos (show (0 : Int) < -lead (pV x) by omega) hg
   rw [Int.mul_neg, ← Int.neg_mul] at h1
   omega
  ·rename_i h3
   have := Int.mul_pos (show (0 : Int) < -lead (pV x) by omega) hg
   rw [Int.neg_mul] at this
   omega
 ·exact absurd h2 qG
 ·exact h2
theorem rS (a : RP) {s n : Nat} (ha : rD a) (sa : Bd LL s n (a.map gv)) (hs : s < 1099511627774) (hn : n < 1099511627774) :
  aI env.P 157 [Pg a] (.eP [I (j1 (k7 a)), Po (pV (k7 a))]) := by
 have hA : Bd LL s n (k7 a) := sa.cut
 have ca : Cn (k7 a) := Cn.cut _
 have na := gI a ha
 rw [show aM (a.map gv) = k7 a from rfl] at na
 refine aB (E := env) (fun _ => 0) [(0, Pg a)] Tryz.func157 rfl (by kernel_rfl) (by kernel_rfl) (show 1 ≤ 23 by decide) (by simp) ?_
 generalize k7 a = x at *
 refine W.sr ?_; simp (disch := omega) [gw]; refine W.lx [0, 2] ?_; simp
 refine W.sr ?_
 simp (disch := omega) [gw]
 refine aA na ?_
 simp (disch := omega) [gw]
 refine W.lx [0, 2] ?_; simp
 refine W.seq ?_
 refine W.sr ?_; simp (disch := omega) [gw]; refine W.lx [0, 2, 9] ?_; simp
 refine W.cond ⟨_, rfl, fun h => ?_, fun h => ?_⟩
 ·have h : x = [] := by simp at h; exact h
  subst h
  rw [show j1 ([] : List Int) = 0 by decide, show pV ([] : List Int) = [] from rfl]
  refine W.sr ?_; simp (disch := omega) [gw]; refine W.lx [2, 3] ?_; simp
  refine W.ret ?_
  simp [go]
  exact ⟨rfl, rfl⟩
 have hx : x ≠ [] := by simp at h; exact h
 clear h
 have nM := List.length_pos_iff.2 hx
 have gx := bW ca hx
 have SR := mC x
 have hC := tS x (PD.of hA hs hn)
 have hL := jY (PB.of hA (by omega) (by omega)) ca
 have hgs := QN (s := s) hA.sz ca hx
 have GY : sz LL (j1 x) ≤ s := by
  unfold j1; split
  ·rw [nW]; exact hgs
  ·exact hgs
 have hO := JJ x (j1 x) (PD.of hA hs hn) (by omega) (by omega)
 rw [show aM (x.map (oZ (j1 x))) = pV x from rfl] at hO
 have hN := agv (x := (bG x : Int)) (by show sz LL _ < _; omega)
 refine W.skip ?_
 refine W.sr ?_
 simp (disch := omega) [gw]
 refine aA hC ?_
 simp (disch := omega) [gw]
 refine W.lx [0, 2, 4] ?_; simp
 refine W.fX (fun σ => ∃ (rows : Pm.Rows) (clk : Nat), σ = ⟨fa [(0, Po x), (2, .ptr 2 0 0 0), (4, .ptr 4 1 0 0)], rows, clk⟩ ∧ rows 2 = some ⟨0, 40, 2, [[.bool false, .nil]]⟩ ∧ rows 4 = some ⟨1, 40, 2, [ie (j1 x)]⟩) ?_ ?_
 ·refine W.gY (fun σ => ∃ (rows : Pm.Rows) (clk : Nat), σ = ⟨fa [(0, Po x), (2, .ptr 2 0 0 0), (4, .ptr 4 1 0 0), (16, .bool (decide (lead x < 0)))], rows, clk⟩ ∧ rows 2 = some ⟨0, 40, 2, [[.bool false, .nil]]⟩ ∧ rows 4 = some ⟨1, 40, 2, [ie (bG x)]⟩) (fun K hK => ?_) ?_
  ·simp (disch := omega) [gw]
   refine aA hL ?_
   simp (disch := omega) [gw]
   refine hK _ _ (aC _ [0, 2, 4, 16]) ⟨_, _, rfl, ?_, ?_⟩ <;> simp [ie]
  rintro _ ⟨rows, clk, rfl, cI, jN⟩
  refine W.YM (lead x < 0) rfl (fun h => ?_) (fun h => ?_)
  ·rw [j1, if_pos h]
   refine W.b8 (fun K hK => ?_)
   simp (disch := omega) [gw, jN]
   refine aA hN ?_
   simp (disch := omega) [gw, jN]
   exact hK _ ⟨_, aC _ [0, 2, 4], _, _, rfl, by simp [cI], by simp⟩
  ·rw [j1, if_neg h]
   refine W.skip ?_
   exact ⟨_, aC _ [0, 2, 4], _, _, rfl, cI, jN⟩
 rintro _ ⟨rows, clk, rfl, cI, jN⟩
 generalize j1 x = c at *
 generalize pV x = p at *
 refine W.sd ?_
 simp (disch := omega) [gw, jN]
 refine aA hO ?_
 simp (disch := omega) [gw, cI, jN]
 refine W.lx [2, 3] ?_; simp
 refine W.ret ?_
 simp [go]
abbrev qd (x : List Int) (D : Int) : List Rat := x.map fun v => cO v D
theorem dX {v D : Int} (h : D ≠ 0) : cO v D = (v : Rat) / (D : Rat) := by rw [cO, if_neg h, Rat.divInt_eq_div]
theorem fH {D : Int} (h : D ≠ 0) : (D : Rat) ≠ 0 := fun h2 => h (by exact_mod_cast h2)
theorem tT {D : Int} (h : D ≠ 0) : cO 0 D = 0 := by rw [dX h]; simp [Rat.div_def]
theorem wQ {v D : Int} (h : D ≠ 0) : cO v D = 0 ↔ v = 0 := by
 constructor
 ·intro h2
  rw [dX h] at h2
  have h3 := fH h
  have : (v : Rat) = 0 := by
   have h4 : (v : Rat) / (D : Rat) * D = 0 := by rw [h2]; grind
   rw [Rat.div_mul_cancel h3] at h4
   exact h4
  exact_mod_cast this
 ·rintro rfl; exact tT h
theorem QO {v D l : Int} (h : D ≠ 0) (hl : l ≠ 0) : cO (v * l) (D * l) = cO v D := by
 rw [dX h, dX (Int.mul_ne_zero h hl), Rat.intCast_mul, Rat.intCast_mul]
 have h1 := fH h
 have h2 := fH hl
 grind
theorem aec {v w D : Int} (h : D ≠ 0) : cO v D + cO w D = cO (v + w) D := by
 rw [dX h, dX h, dX h, Rat.intCast_add]
 have h1 := fH h
 grind
theorem QP {v D : Int} (h : D ≠ 0) : cO v D * (-1) = cO (-v) D := by
 rw [dX h, dX h, Rat.intCast_neg]
 have h1 := fH h
 grind
theorem aad {v w D : Int} (h : D ≠ 0) : (w : Rat) * cO v D = cO (w * v) D := by
 rw [dX h, dX h, Rat.intCast_mul]
 have h1 := fH h
 grind
theorem aed {v D l : Int} (h : D ≠ 0) (hl : l ≠ 0) : cO v D / (l : Rat) = cO v (D * l) := by
 rw [dX h, dX (Int.mul_ne_zero h hl), Rat.intCast_mul]
 have h1 := fH h
 have h2 := fH hl
 grind
theorem tU {D : Int} (h : D ≠ 0) : ∀ x : List Int, lT (qd x D) = qd (aM x) D
 | [] => rfl
 | a :: x => by
  have ih := tU h x
  simp only [qd, List.map_cons] at ih ⊢
  rw [lT, ih, aM]
  by_cases h1 : aM x = [] ∧ a = 0
  ·simp [h1, tT h]
  ·rw [if_neg h1, if_neg (by simpa [wQ h] using h1)]; simp
theorem FP {D : Int} (h : D ≠ 0) (x : List Int) (k : Nat) : nth (qd x D) k = cO (nth x k) D := xK (f := fun v => cO v D) (tT h) x k
theorem aee {D : Int} (h : D ≠ 0) (x y : List Int) : Z0 (qd x D) (qd y D) = qd (fZ x y) D := by
 rw [Z0, fZ, ← tU h]
 congr 1
 simp only [qd, List.length_map, List.map_map]
 congr 1
 funext k
 simp only [Function.comp_apply]
 rw [show nth (List.map (fun v => cO v D) x) k = _ from FP h x k, show nth (List.map (fun v => cO v D) y) k = _ from FP h y k, aec h]
theorem aef {D : Int} (h : D ≠ 0) (x : List Int) : jD (qd x D) (-1) = qd (fJ x) D := by
 rw [jD, fJ, ← tU h]
 congr 1
 simp only [qd, List.map_map]
 congr 1
 funext k
 simp only [Function.comp_apply]
 exact QP h
theorem US {D : Int} (h : D ≠ 0) (y : List Int) (v : Int) : jD (qs y) (cO v D) = qd (aV y v) D := by
 rw [jD, aV, ← tU h]
 congr 1
 simp only [qd, qs, List.map_map]
 congr 1
 funext k
 simp only [Function.comp_apply]
 exact aad h
theorem NR {D l : Int} (h : D ≠ 0) (hl : l ≠ 0) (x : List Int) : qd (x.map (· * l)) (D * l) = qd x D := by
 simp only [qd, List.map_map]
 congr 1
 funext k
 simp only [Function.comp_apply]
 exact QO h hl
theorem FQ (x : List Int) : qd x 1 = qs x := by
 simp only [qd, qs, j6]
theorem sF {v D : Int} {k : Nat} (h : D ≠ 0) (hv : sz 2 v ≤ k) (hD : sz 2 D ≤ k) : ZR k (cO v D) := by
 refine ⟨Nat.le_trans (cC (by decide) ?_) hv, Nat.le_trans (cC (by decide) ?_) hD⟩
 ·rw [n3 _ _ h]
  refine Nat.le_trans (Int.natAbs_ediv_le_natAbs _ _) ?_
  split <;> simp
 ·rw [n4 _ _ h]
  refine Nat.le_trans (Int.natAbs_ediv_le_natAbs _ _) ?_
  split <;> simp
theorem NS {x : List Int} {D : Int} {k n : Nat} (h : D ≠ 0) (hx : Bd 2 k n x) (hD : sz 2 D ≤ k) (hk : k ≤ YY) (hn : n < 1099511627776) : UM (qd x D) := ⟨fun q hq => by
 simp only [List.mem_map] at hq
 obtain ⟨v, hv, rfl⟩ := hq
 exact sF h (Nat.le_trans (hx.sz v hv) hk) (Nat.le_trans hD hk), by have := hx.len; simp; omega⟩
structure DS where
 Q : List Int
 r : List Int
 D : Int
def dst (y : List Int) (σ : DS) : DS := ⟨(σ.Q.map (· * lead y)).set (σ.r.length - y.length) (lead σ.r), uS y (lead y) (lead σ.r) (σ.r.length - y.length) σ.r, σ.D * lead y⟩
def UT (y : List Int) : Nat → DS → DS
 | 0, σ => σ
 | n + 1, σ => if σ.r.length < y.length then σ else UT y n (dst y σ)
def dmd (x y : List Int) : DS := UT y (x.length + 1) ⟨List.replicate (iH x y) 0, x, 1⟩
theorem FR {y : List Int} {σ : DS} (hy : 0 < y.length) (h : y.length ≤ σ.r.length) : (dst y σ).r.length < σ.r.length := by
 have h1 := xM (b := y) (r := σ.r) (i := σ.r.length - y.length) hy (by omega)
 rw [show tF y σ.r (σ.r.length - y.length) = lead σ.r from by rw [tF, if_pos (by omega)]] at h1
 show (uS y (lead y) (lead σ.r) (σ.r.length - y.length) σ.r).length < _
 omega
theorem aeg {y : List Int} {σ : DS} (h : σ.r.length < y.length) : ∀ n, UT y n σ = σ
 | 0 => rfl
 | n + 1 => by rw [UT, if_pos h]
structure sG (x y : List Int) (σ : DS) : Prop where
 v : ∀ t, σ.D * V t x = V t σ.Q * V t y + V t σ.r
 z : ∀ j, j + y.length ≤ σ.r.length → nth σ.Q j = 0
 c : Cn σ.r
 d : σ.D ≠ 0
 q : σ.r.length + 1 ≤ σ.Q.length + y.length ∨ σ.r.length < y.length
theorem sG.step {x y : List Int} {σ : DS} (cy : Cn y) (hy : 0 < y.length) (h : y.length ≤ σ.r.length) (hI : sG x y σ) : sG x y (dst y σ) := by
 have hl := cD cy hy
 have eZ := FR hy h
 have hq := hI.q.resolve_right (by omega)
 have hk : σ.r.length - y.length < (σ.Q.map (· * lead y)).length := by simp; omega
 have h1 := xM (b := y) (r := σ.r) (i := σ.r.length - y.length) hy (by omega)
 rw [show tF y σ.r (σ.r.length - y.length) = lead σ.r from by rw [tF, if_pos (by omega)]] at h1
 refine ⟨fun t => ?_, fun j hj => ?_, Cn.dY _ _, Int.mul_ne_zero hI.d hl, ?_⟩
 ·have h2 := hI.v t
  have h3 := C2 (b := t) (x := lead σ.r) hk
  have h4 : nth (σ.Q.map (· * lead y)) (σ.r.length - y.length) = 0 := by
   rw [iI, hI.z _ (by omega)]; simp
  show σ.D * lead y * V t x = V t ((σ.Q.map (· * lead y)).set (σ.r.length - y.length) (lead σ.r)) * V t y + V t (uS y (lead y) (lead σ.r) (σ.r.length - y.length) σ.r)
  rw [h3, h4, c8, uS, gR, cL, l9, bV]
  have h5 : σ.D * lead y * V t x = lead y * (σ.D * V t x) := by grind
  rw [h5, h2]; grind
 ·have hj : j + y.length ≤ (uS y (lead y) (lead σ.r) (σ.r.length - y.length) σ.r).length := hj
  show nth ((σ.Q.map (· * lead y)).set (σ.r.length - y.length) (lead σ.r)) j = 0
  rw [fF (by omega), iI, hI.z _ (by omega)]; simp
 ·left
  have : (dst y σ).Q.length = σ.Q.length := by simp [dst]
  omega
theorem sG.UT {x y : List Int} (cy : Cn y) (hy : 0 < y.length) : ∀ (n : Nat) (σ : DS), σ.r.length < n → sG x y σ → sG x y (UT y n σ) ∧ (Proofs.YtbbjgncblhfegaaGreat.UT y n σ).r.length < y.length
 | 0, σ, h, _ => by omega
 | n + 1, σ, h, hI => by
  rw [Proofs.YtbbjgncblhfegaaGreat.UT]
  split
  ·rename_i h1; exact ⟨hI, h1⟩
  ·rename_i h1
   exact sG.UT cy hy n _ (by have := FR (σ := σ) hy (by omega); omega) (hI.step cy hy (by omega))
theorem sG.start {x y : List Int} (cx : Cn x) : sG x y ⟨List.replicate (iH x y) 0, x, 1⟩ := by
 refine ⟨fun t => ?_, fun j hj => ?_, cx, show (1 : Int) ≠ 0 by decide, ?_⟩
 ·simp [oN]
 ·rcases Nat.lt_or_ge j (iH x y) with h | h
  ·rw [cS (by simpa using h)]; simp
  ·rw [fY (by simpa using h)]; rfl
 ·simp only [iH, List.length_replicate]; omega
theorem aeh {x y : List Int} (cx : Cn x) (cy : Cn y) (hy : 0 < y.length) : sG x y (dmd x y) ∧ (dmd x y).r.length < y.length := sG.UT cy hy _ _ (Nat.lt_succ_self _) (sG.start cx)
@[simp] theorem apk {l : List Rat} {i : Nat} {q : Rat} : gN (emap re l) i 0 [aJ aF (aQ DD q.num.natAbs), .bool (decide (q.num < 0)), aJ aF (aQ DD q.den), .bool false] = emap re (l.set i q) := xN (n := 4) (fun _ => rfl)
theorem z6 (x : List Int) : emap re (qs x) = emap ri x := by simp only [emap, qs, List.map_map, Function.comp_def, eN]
theorem aaf (a b n : List Rat) (ha : UM a) (hb : UM b) (hn : jD b (-1) = n) (hn2 : UM n) : aI env.P 152 [PP a, PP b] (PP (Z0 a n)) := by
 have h1 := JG b hb
 rw [hn] at h1
 have h2 := Z2 a n ha hn2
 refine aB (E := env) (fun _ => 0) [(0, PP a), (1, PP b)] Tryz.func152 rfl (by kernel_rfl) (by kernel_rfl) (show 2 ≤ 9 by decide) (by simp) ?_
 refine W.sr ?_; simp (disch := omega) [gw]; refine W.lx [0, 1] ?_; simp
 refine W.sr ?_
 simp (disch := omega) [gw]
 refine aA h1 ?_
 simp (disch := omega) [gw]
 refine aA h2 ?_
 simp (disch := omega) [gw]
 refine W.lx [4] ?_; simp
 refine W.ret ?_
 simp [go]
def G5 (l : List Rat) : Int := l.foldl (fun d q => (d * q.den).tdiv (Int.gcd d q.den)) 1
def QQ (d : Int) (l : List Rat) : Int := l.foldl (fun (g : Int) q => (Int.gcd g ((q.num * d).tdiv q.den) : Int)) 0
theorem aag {l : List Rat} {i : Nat} (h : i < l.length) : G5 (l.take (i + 1)) = (G5 (l.take i) * (nth l i).den).tdiv (Int.gcd (G5 (l.take i)) (nth l i).den) := by
 unfold G5; rw [a8 h, List.foldl_append]; rfl
theorem aah {l : List Rat} {d : Int} {i : Nat} (h : i < l.length) : QQ d (l.take (i + 1)) = (Int.gcd (QQ d (l.take i)) (((nth l i).num * d).tdiv (nth l i).den) : Int) := by
 unfold QQ; rw [a8 h, List.foldl_append]; rfl
theorem aai (q : Rat) : RI (q.den : Int) = .ag [aJ aF (aQ DD q.den), .bool false] := by
 simp [show ¬ ((q.den : Int) < 0) by omega]
def NT (l : List Rat) : Rat := if (nth l (l.length - 1)).num < 0 then -(cO (QQ (G5 l) l) (G5 l)) else cO (QQ (G5 l) l) (G5 l)
def qpr (l : List Rat) : List Rat := jD l (1 / NT l)
theorem pW (l : List Rat) {k : Nat} (hk : k ≤ YY) (hk1 : 1 ≤ k) (hl : ∀ q ∈ l, ZR k q) (BH : l.length < 1099511627776) (h0 : l ≠ [])
  (hd : ∀ i, sz 2 (G5 (l.take i)) ≤ k) (NK : ∀ i, 0 < G5 (l.take i)) (hg : ∀ i, sz 2 (QQ (G5 l) (l.take i)) ≤ k)
  (hc : ZR YY (NT l)) (tI : NT l ≠ 0) (uM : ZR YY (1 / NT l)) :
  aI env.P 191 [PP l] (.eP [RR (NT l), PP (qpr l)]) := by
 have hkY : k ≤ 137438953472 := hk
 have uN : 0 < l.length := List.length_pos_iff.2 h0
 refine aB (E := env) (fun _ => 0) [(0, PP l)] Tryz.func191 rfl (by kernel_rfl) (by kernel_rfl) (show 1 ≤ 75 by decide) (by simp) ?_
 refine W.sr ?_; simp (disch := omega) [gw]; refine W.lx [0, 2] ?_; simp
 refine W.seq ?_
 refine W.sr ?_; simp (disch := omega) [gw]; refine W.lx [0, 2, 11] ?_; simp
 refine W.cond ⟨_, rfl, fun h => ?_, fun h => ?_⟩
 ·exfalso; simp at h; exact h0 h
 refine W.skip ?_
 refine W.sr ?_
 simp (disch := omega) [gw]
 refine aA (mA 1 (by decide) (by decide)) ?_
 simp (disch := omega) [gw]
 refine W.lx [0, 2, 4] ?_; simp
 refine W.seq ?_
 refine W.sr ?_; simp (disch := omega) [gw]; refine W.lx [0, 2, 4, 15, 16] ?_; simp
 refine W.block ?_
 refine W.a9 (fun n σ => ∃ (i : Nat) (d : Int) (rows : Pm.Rows) (clk : Nat), σ = ⟨fa [(0, PP l), (2, .ptr 2 0 0 0), (4, .ptr 4 1 0 0), (15, .int .i64 l.length), (16, .int .i64 i)], rows, clk⟩ ∧
  rows 2 = some ⟨0, 50, 4, [[.nil, .bool false, .nil, .bool false]]⟩ ∧ rows 4 = some ⟨1, 48, 2, [[aJ aF (aQ DD d.natAbs), .bool (decide (d < 0))]]⟩ ∧ n = l.length - i ∧ i ≤ l.length ∧ d = G5 (l.take i)) l.length ?_ ?_
 ·exact ⟨_, .refl, 0, 1, _, _, rfl, by simp, by simp, by omega, by omega, by simp [G5]⟩
 rintro n _ ⟨i, d, rows, clk, rfl, cI, jN, hn, hi, ZH⟩
 refine W.sr ?_; simp (disch := omega) [gw]; refine W.lx [0, 2, 4, 15, 16, 17] ?_; simp
 refine W.seq ?_
 refine W.cond ⟨_, rfl, fun h => ?_, fun h => ?_⟩
 ·have hi : i < l.length := by simp at h; omega
  have hq := hl _ (bQ hi)
  have hdi := hd i
  have hdp := NK i
  have hs := aag hi
  rw [← ZH] at hs hdi hdp
  have hsn := hd (i + 1)
  have m1 := dO d (nth l i).den (by simp only [Z]; omega) (by have := hq.d; simp only [Z]; omega)
  have m2 := zV d (nth l i).den (by simp only [Y]; omega) (by have := hq.d; simp only [Y]; omega)
  have zm := bS (b := 2) (by decide) hdi hq.d
  have hgp : 0 < Int.gcd d (nth l i).den := Int.gcd_pos_of_ne_zero_left _ (by omega)
  have zg : Y (Int.gcd d (nth l i).den : Int) := zU (y := d) (by simp only [Y]; omega) (by
   have := Int.le_of_dvd hdp (Int.gcd_dvd_left d ((nth l i).den : Int)); omega)
  have m3 := tO (d * (nth l i).den) (Int.gcd d (nth l i).den) (by omega) (by simp only [Y]; omega) zg
  rw [← hs] at m3
  rw [aai] at m1 m2
  generalize (Int.gcd d (nth l i).den : Int) = gg at *
  generalize d * ((nth l i).den : Int) = dd at *
  generalize S5 : G5 (l.take (i + 1)) = d2 at *
  generalize UU : nth l i = q at *
  refine W.skip ?_
  refine W.seq ?_
  refine W.block ?_
  refine W.sr ?_; simp (disch := omega) [gw, UU]; refine W.lx [0, 2, 4, 5, 15, 16] ?_; simp
  refine W.M3 (fun K hK => ?_)
  simp (disch := omega) [gw, jN, UU]
  refine aA m1 ?_
  simp (disch := omega) [gw, jN, UU]
  refine aA m2 ?_
  simp (disch := omega) [gw, jN, UU]
  refine aA m3 ?_
  simp (disch := omega) [gw, jN, UU]
  refine bN (by refine ⟨?_, ?_⟩ <;> kernel_rfl) ?_
  simp (disch := omega) [gw]
  refine W.lw [0, 2, 4, 15, 16] hK ?_; clear hK K; simp
  refine W.b8 (fun K hK => ?_); simp (disch := omega) [gw]
  refine hK _ ⟨l.length - (i + 1), _, aC _ [0, 2, 4, 15, 16], by omega, i + 1, d2, _, _, rfl, by simp [cI], by simp, by omega, by omega, S5.symm⟩
 have hi : i = l.length := by simp at h; omega
 subst hi
 rw [List.take_length] at ZH
 have W4 := hd l.length
 have hdp := NK l.length
 rw [List.take_length, ← ZH] at W4 hdp
 rw [← ZH] at hg
 have hqc : NT l = if (nth l (l.length - 1)).num < 0 then -(cO (QQ d l) d) else cO (QQ d l) d := by rw [ZH]; rfl
 refine W.exit ?_; simp only [pX, if_true, if_false, reduceIte, Nat.reduceEqDiff]
 refine W.sr ?_; simp (disch := omega) [gw]; refine W.lx [0, 2, 4, 6] ?_; simp
 refine W.row (id := 6) (els := [[.nil, .bool false]]) [[aJ aF (aQ DD 0), .bool false]] (by simp; first | exact ⟨rfl, rfl, rfl⟩ | exact ⟨rfl, rfl, rfl, rfl⟩) ⟨⟨.inr ⟨rfl, rfl⟩, .inl rfl, trivial⟩, trivial⟩ ?_
 refine W.seq ?_
 refine W.sr ?_; simp (disch := omega) [gw]; refine W.lx [0, 2, 4, 6, 36, 37] ?_; simp
 refine W.block ?_
 clear ZH
 refine W.a9 (fun n σ => ∃ (i v6 : Nat) (g : Int) (rows : Pm.Rows) (clk : Nat), σ = ⟨fa [(0, PP l), (2, .ptr 2 0 0 0), (4, .ptr 4 1 0 0), (6, .ptr 6 v6 0 0), (36, .int .i64 l.length), (37, .int .i64 i)], rows, clk⟩ ∧
  rows 2 = some ⟨0, 50, 4, [[.nil, .bool false, .nil, .bool false]]⟩ ∧ rows 4 = some ⟨1, 48, 2, [[aJ aF (aQ DD d.natAbs), .bool (decide (d < 0))]]⟩ ∧
  rows 6 = some ⟨v6, 48, 2, [[aJ aF (aQ DD g.natAbs), .bool (decide (g < 0))]]⟩ ∧ n = l.length - i ∧ i ≤ l.length ∧ g = QQ d (l.take i)) l.length ?_ ?_
 ·exact ⟨_, .refl, 0, _, 0, _, _, rfl, by simp [cI], by simp [jN], by simp, by omega, by omega, by simp [QQ]⟩
 clear cI jN rows clk
 rintro n _ ⟨i, v6, g, rows, clk, rfl, cI, jN, tV, hn, hi, hgv⟩
 refine W.sr ?_; simp (disch := omega) [gw]; refine W.lx [0, 2, 4, 6, 36, 37, 38] ?_; simp
 refine W.seq ?_
 refine W.cond ⟨_, rfl, fun h => ?_, fun h => ?_⟩
 ·have hi : i < l.length := by simp at h; omega
  have hq := hl _ (bQ hi)
  have hgi := hg i
  have hs := aah (d := d) hi
  rw [← hgv] at hs hgi
  have m1 := dO (nth l i).num d (by have := hq.n; simp only [Z]; omega) (by simp only [Z]; omega)
  have zm := bS (b := 2) (by decide) hq.n W4
  have m2 := tO ((nth l i).num * d) (nth l i).den (by have := (nth l i).den_nz; omega) (by simp only [Y]; omega) (by have := hq.d; simp only [Y]; omega)
  have zq : Y (((nth l i).num * d).tdiv (nth l i).den) := zU (y := (nth l i).num * d) (by simp only [Y]; omega) (by rw [Int.natAbs_tdiv]; exact Nat.div_le_self _ _)
  have m3 := zV g (((nth l i).num * d).tdiv (nth l i).den) (by simp only [Y]; omega) zq
  rw [← hs] at m3
  rw [aai] at m2
  generalize ((nth l i).num * d).tdiv (nth l i).den = nq at *
  generalize (nth l i).num * d = nd at *
  generalize mX : QQ d (l.take (i + 1)) = g2 at *
  generalize UU : nth l i = q at *
  refine W.skip ?_
  refine W.seq ?_
  refine W.block ?_
  refine W.sr ?_; simp (disch := omega) [gw, UU]; refine W.lx [0, 2, 4, 6, 7, 36, 37] ?_; simp
  refine W.M3 (fun K hK => ?_)
  simp (disch := omega) [gw, jN, tV, UU]
  refine aA m1 ?_
  simp (disch := omega) [gw, jN, tV, UU]
  refine aA m2 ?_
  simp (disch := omega) [gw, jN, tV, UU]
  refine aA m3 ?_
  simp (disch := omega) [gw, jN, tV, UU]
  refine bN (by kernel_rfl) ?_
  simp (disch := omega) [gw]
  refine W.lw [0, 2, 4, 6, 36, 37] hK ?_; clear hK K; simp
  refine W.b8 (fun K hK => ?_); simp (disch := omega) [gw]
  refine hK _ ⟨l.length - (i + 1), _, aC _ [0, 2, 4, 6, 36, 37], by omega, i + 1, v6, g2, _, _, rfl, by simp [cI], by simp [jN], by simp, by omega, by omega, mX.symm⟩
 have hi : i = l.length := by simp at h; omega
 subst hi
 rw [List.take_length] at hgv
 have hgl := hg l.length
 rw [List.take_length] at hgl
 rw [← hgv] at hgl hqc
 have hMk := jC g d (by simp only [Y]; omega) (by simp only [Y]; omega)
 have hNg := zY (cO g d)
 have hQ := z0 1 (NT l) ⟨by show sz 2 1 ≤ YY; exact Nat.le_trans (cN (k := 1) (by decide) (by decide)) (by decide), by show sz 2 1 ≤ YY; exact Nat.le_trans (cN (k := 1) (by decide) (by decide)) (by decide)⟩ hc tI
 have hOf := n5 1 1 (by decide) (by decide)
 rw [j6, show (((1 : Int)) : Rat) = 1 by simp] at hOf
 have hSc := n6 l (1 / NT l) ⟨fun q hq => ⟨Nat.le_trans (hl q hq).n hk, Nat.le_trans (hl q hq).d hk⟩, BH⟩ uM
 rw [show jD l (1 / NT l) = qpr l from rfl] at hSc
 have e1 : ((l.length : Int) - 1).toNat = l.length - 1 := by omega
 generalize qpr l = pr at *
 generalize gX : (1 : Rat) = one at *
 generalize one / NT l = ic at *
 generalize NT l = cc at *
 generalize hqm : cO g d = c0 at *
 generalize UU : nth l (l.length - 1) = q at *
 refine W.exit ?_; simp only [pX, if_true, if_false, reduceIte, Nat.reduceEqDiff]
 refine W.sr ?_
 simp (disch := omega) [gw, jN, tV]
 refine aA hMk ?_
 simp (disch := omega) [gw]
 refine W.lx [0, 2, 8] ?_; simp
 refine W.fX (fun σ => ∃ (v8 : Nat) (rows : Pm.Rows) (clk : Nat), σ = ⟨fa [(0, PP l), (2, .ptr 2 0 0 0), (8, .ptr 8 v8 0 0)], rows, clk⟩ ∧ rows 2 = some ⟨0, 50, 4, [[.nil, .bool false, .nil, .bool false]]⟩ ∧ rows 8 = some ⟨v8, 50, 4, [re cc]⟩) ?_ ?_
 ·refine W.sr ?_; simp (disch := omega) [gw, e1, UU]; refine W.lx [0, 2, 8, 66] ?_; simp
  refine W.YM (q.num < 0) rfl (fun h => ?_) (fun h => ?_)
  ·rw [if_pos h] at hqc
   rw [← hqc] at hNg
   refine W.b8 (fun K hK => ?_)
   simp (disch := omega) [gw]
   refine aA hNg ?_
   simp (disch := omega) [gw]
   exact hK _ ⟨_, aC _ [0, 2, 8], _, _, _, rfl, by simp [cI], by simp⟩
  ·rw [if_neg h] at hqc
   refine W.skip ?_
   exact ⟨_, aC _ [0, 2, 8], _, _, _, rfl, by simp [cI], by simp [hqc]⟩
 clear cI jN tV rows clk
 rintro _ ⟨v8, rows, clk, rfl, cI, xG⟩
 refine W.sd ?_
 simp (disch := omega) [gw, xG]
 refine aA hOf ?_
 simp (disch := omega) [gw, xG]
 refine aA hQ ?_
 simp (disch := omega) [gw, xG]
 refine aA hSc ?_
 simp (disch := omega) [gw, cI, xG]
 refine W.lx [2, 3] ?_; simp
 refine W.ret ?_
 simp [go]
theorem aei (x : List Int) (hx : ∀ c ∈ x, Z c) (hl : x.length < 1099511627776) : aI env.P 22 [PI x] (Po x) := by
 refine aB (E := env) (fun _ => 0) [(0, PI x)] Tryz.func22 rfl (by kernel_rfl) (by kernel_rfl) (show 1 ≤ 21 by decide) (by simp) ?_
 refine W.sr ?_; simp (disch := omega) [gw]; refine W.lx [0] ?_; simp
 refine W.sr ?_; simp (disch := omega) [gw]; refine W.lx [0, 3] ?_; simp
 refine W.nil 3 3 40 2 (by simp) (by decide) (fun K hK => ?_)
 refine W.lw [0, 3] hK ?_; clear hK K; simp
 refine W.seq ?_
 refine W.sr ?_; simp (disch := omega) [gw]; refine W.lx [0, 3, 6, 7] ?_; simp
 refine W.block ?_
 refine W.a9 (fun k σ => ∃ (i ver : Nat) (rows : Pm.Rows) (clk : Nat), σ = ⟨fa [(0, PI x), (3, .own 3 ver 0 i), (6, .int .i64 x.length), (7, .int .i64 i)], rows, clk⟩ ∧ rows 3 = some ⟨ver, 40, 2, emap ie (x.take i)⟩ ∧ k = x.length - i ∧ i ≤ x.length) x.length ?_ ?_
 ·exact ⟨_, .refl, 0, _, _, _, rfl, by simp [emap], by omega, by omega⟩
 rintro k _ ⟨i, ver, rows, clk, rfl, hr, hk, hi⟩
 refine W.sr ?_; simp (disch := omega) [gw]; refine W.lx [0, 3, 6, 7, 8] ?_; simp
 refine W.seq ?_
 refine W.cond ⟨_, rfl, fun h0 => ?_, fun h0 => ?_⟩
 ·have h0 : i < x.length := by simp at h0; omega
  have fA : (x.take i).length = i := by simp; omega
  have hT := FK (nth x i) (hx _ (bQ h0))
  refine W.skip ?_
  refine W.seq ?_
  refine W.block ?_
  refine W.sr ?_; simp (disch := omega) [gw]; refine W.lx [0, 3, 4, 6, 7] ?_; simp
  refine W.b8 (fun K hK => ?_)
  simp (disch := omega) [gw]
  refine aA hT ?_
  simp (disch := omega) [gw, hr, fA]
  refine W.lw [0, 3, 6, 7] hK ?_; clear hK K; simp
  refine W.b8 (fun K hK => ?_); simp (disch := omega) [gw]
  refine hK _ ⟨x.length - (i + 1), _, aC _ [0, 3, 6, 7], by omega, i + 1, _, _, _, rfl, ?_, by omega, by omega⟩
  rw [a8 h0]
  simp
 ·have kY : i = x.length := by simp at h0; omega
  subst kY
  rw [List.take_length] at hr
  refine W.exit ?_; simp only [pX, if_true, if_false, reduceIte, Nat.reduceEqDiff]
  refine W.sr ?_
  simp (disch := omega) [gw, hr]
  refine W.lx [2] ?_; simp
  refine W.ret ?_
  simp [go, hr]
theorem FT (x : List Int) : G5 (qs x) = 1 := by
 have key : ∀ l : List Int, (qs l).foldl (fun (d : Int) q => (d * q.den).tdiv (Int.gcd d q.den)) 1 = 1 := by
  intro l
  induction l with
  | nil => rfl
  | cons a l ih =>
   simp only [qs, List.map_cons, List.foldl_cons, Rat.den_intCast] at ih ⊢
   exact ih
 exact key x
theorem aaj (x : List Int) : QQ 1 (qs x) = bG x := by
 have key : ∀ (l : List Int) (g : Nat), (qs l).foldl (fun (g : Int) q => (Int.gcd g ((q.num * 1).tdiv q.den) : Int)) g = (l.foldl (fun g c => Nat.gcd g c.natAbs) g : Nat) := by
  intro l
  induction l with
  | nil => intro g; rfl
  | cons a l ih =>
   intro g
   have := ih (Nat.gcd g a.natAbs)
   simp only [qs, List.map_cons, List.foldl_cons, Rat.den_intCast, Rat.num_intCast] at this ⊢
   rw [← this]
   congr 1
   simp [Int.gcd]
 exact key x 0
theorem FU (x : List Int) (i : Nat) : (qs x).take i = qs (x.take i) := by simp [qs, List.map_take]
theorem z7 {x : List Int} (hx : 0 < x.length) : NT (qs x) = (j1 x : Rat) := by
 have e : (nth (qs x) ((qs x).length - 1)).num = lead x := by rw [Z3]; simp [lead]
 unfold NT j1
 rw [FT, aaj, j6, e]
 split
 ·rw [Rat.intCast_neg]
 ·rfl
theorem ajJ {x : List Int} (cx : Cn x) (hx : x ≠ []) : qpr (qs x) = qs (pV x) := by
 have nM := List.length_pos_iff.2 hx
 have h0 := mC x
 have gx := bW cx hx
 have hp : j1 x ≠ 0 := by omega
 have hc := fH hp
 rw [qpr, z7 nM, jD, pV, ← tQ]
 congr 1
 simp only [qs, List.map_map]
 refine List.map_congr_left fun v hv => ?_
 simp only [Function.comp_apply]
 have hd := FN x v hv
 obtain ⟨w, rfl⟩ := hd
 have : oZ (j1 x) (j1 x * w) = w := by
  unfold oZ
  rw [if_pos (Int.mul_emod_right _ _)]
  exact Int.mul_ediv_cancel_left _ hp
 rw [this, Rat.intCast_mul]
 grind
theorem kR {x : List Int} {s : Nat} (hs : ∀ c ∈ x, sz 2 c ≤ s) : sz 2 (bG x : Int) ≤ s := by
 by_cases h : ∃ c ∈ x, c ≠ 0
 ·obtain ⟨c, hc, h0⟩ := h
  refine Nat.le_trans (cC (by decide) ?_) (hs c hc)
  have := Int.le_of_dvd (a := (bG x : Int)) (b := (c.natAbs : Int)) (by omega) (Int.dvd_natAbs.2 (gB x _ hc))
  omega
 ·have h1 : bG x = 0 := by
   have h2 : (0 : Nat) ∣ bG x := z5 fun c hc => by
    have : c = 0 := Classical.byContradiction fun h3 => h ⟨c, hc, h3⟩
    rw [this]; exact Int.dvd_refl _
   exact Nat.eq_zero_of_zero_dvd h2
  rw [h1]; show sz 2 0 ≤ s; rw [jA]; omega
theorem z8 (x : List Int) {s n : Nat} (hx : Bd 2 s n x) (cx : Cn x) (qO : 1 ≤ s) (hs : s ≤ YY) (hn : n < 1099511627776) : aI env.P 191 [PI x] (.eP [.ag (ri (j1 x)), PI (pV x)]) := by
 have hlx := hx.len
 by_cases h0 : x = []
 ·subst h0
  have hz := nE
  rw [show j1 ([] : List Int) = 0 by decide, show pV ([] : List Int) = [] from rfl]
  refine aB (E := env) (fun _ => 0) [(0, PI [])] Tryz.func191 rfl (by kernel_rfl) (by kernel_rfl) (show 1 ≤ 75 by decide) (by simp) ?_
  refine W.sr ?_; simp (disch := omega) [gw]; refine W.lx [0, 2] ?_; simp
  refine W.seq ?_
  refine W.sr ?_; simp (disch := omega) [gw]; refine W.lx [0, 2, 11] ?_; simp
  refine W.cond ⟨_, rfl, fun h => ?_, fun h => ?_⟩
  ·refine W.sr ?_
   simp (disch := omega) [gw]
   refine aA hz ?_
   simp (disch := omega) [gw]
   refine W.lx [2, 3] ?_; simp
   refine W.ret ?_
   simp [go]
   all_goals rfl
  ·simp at h
 ·have nM := List.length_pos_iff.2 h0
  have hp := mC x
  have gx := bW cx h0
  have SR : j1 x ≠ 0 := by omega
  have hgs : ∀ i, sz 2 (bG (x.take i) : Int) ≤ s := fun i => kR fun c hc => hx.sz c (List.mem_of_mem_take hc)
  have wO : sz 2 (j1 x) ≤ s := by
   have := kR hx.sz
   unfold j1; split
   ·rw [nW]; exact this
   ·exact this
  have s1 : sz 2 1 ≤ 1 := cN (by decide) (by decide)
  have zc : ZR YY (j1 x : Rat) := mS (Nat.le_trans wO hs) (by decide)
  have e1 : (1 : Rat) / (j1 x : Rat) = cO 1 (j1 x) := by rw [dX SR]; simp
  have := pW (qs x) hs qO (fun q hq => by
   simp only [qs, List.mem_map] at hq
   obtain ⟨c, hc, rfl⟩ := hq
   exact mS (hx.sz c hc) qO) (by simp; omega) (by simpa [qs] using h0)
   (fun i => by rw [FU, FT]; omega) (fun i => by rw [FU, FT]; decide) (fun i => by rw [FT, FU, aaj]; exact hgs i)
   (by rw [z7 nM]; exact zc) (by rw [z7 nM]; exact fH SR) (by rw [z7 nM, e1]; exact sF SR (by show sz 2 1 ≤ 137438953472; omega) (Nat.le_trans wO hs))
  rw [z7 nM, ajJ cx h0, oQ, oQ, RR, eN] at this
  exact this
theorem UW {D a b : Nat} (hD : 0 < D) (ha : a ∣ D) (hb : b ∣ D) : Nat.lcm (D / a) (D / b) = D / Nat.gcd a b := by
 have ha0 : 0 < a := Nat.pos_of_dvd_of_pos ha hD
 have hb0 : 0 < b := Nat.pos_of_dvd_of_pos hb hD
 have hg : 0 < Nat.gcd a b := Nat.gcd_pos_of_pos_left _ ha0
 obtain ⟨a', b', hc, ea, eb⟩ := Nat.exists_coprime a b
 generalize Nat.gcd a b = g at *
 obtain ⟨p, hp⟩ := ha
 obtain ⟨q, hq⟩ := hb
 have h1 : a' * p = b' * q := by
  have : g * (a' * p) = g * (b' * q) := by rw [ea] at hp; rw [eb] at hq; grind
  exact Nat.eq_of_mul_eq_mul_left hg this
 have h2 : a' ∣ q := hc.dvd_of_dvd_mul_left (by rw [← h1]; exact Nat.dvd_mul_right _ _)
 obtain ⟨m, rfl⟩ := h2
 have auo : 0 < a' := by
  rcases Nat.eq_zero_or_pos a' with h | h
  ·rw [h] at ea; omega
  ·exact h
 have h3 : p = b' * m := by
  have : a' * p = a' * (b' * m) := by rw [h1]; grind
  exact Nat.eq_of_mul_eq_mul_left auo this
 subst h3
 have e1 : D / a = b' * m := by rw [hp]; exact Nat.mul_div_cancel_left _ ha0
 have e2 : D / b = a' * m := by rw [hq]; exact Nat.mul_div_cancel_left _ hb0
 have e3 : D / g = a' * b' * m := by
  rw [hp, ea, show a' * g * (b' * m) = g * (a' * b' * m) by grind]
  exact Nat.mul_div_cancel_left _ hg
 rw [e1, e2, e3, Nat.lcm_mul_right, Nat.lcm_comm, Nat.lcm, show a'.gcd b' = 1 from hc, Nat.div_one]
theorem aak (n : Nat) (q : Rat) : ((n : Int) * q.den).tdiv (Int.gcd n q.den) = (Nat.lcm n q.den : Nat) := by
 have : Int.gcd (n : Int) (q.den : Int) = Nat.gcd n q.den := rfl
 rw [this, ← Int.natCast_mul, ← Int.ofNat_tdiv]
 rfl
theorem wR {v : Int} {D : Nat} (hD : 0 < D) : (cO v D).den = D / Nat.gcd D v.natAbs := by
 have h := n4 v D (by omega)
 have h2 : ¬ (D : Int) < 0 := by omega
 simp only [h2, if_false] at h
 have : Int.gcd v (D : Int) = Nat.gcd D v.natAbs := by rw [Int.gcd, Nat.gcd_comm]; rfl
 rw [this] at h
 exact_mod_cast h
theorem wS {v : Int} {D : Nat} (hD : 0 < D) : (cO v D).num = v / (Nat.gcd D v.natAbs : Nat) := by
 have h := n3 v D (by omega)
 have h2 : ¬ (D : Int) < 0 := by omega
 simp only [h2, if_false] at h
 have : Int.gcd v (D : Int) = Nat.gcd D v.natAbs := by rw [Int.gcd, Nat.gcd_comm]; rfl
 rw [this] at h
 exact h
def V8 (D : Nat) (x : List Int) : Nat := Nat.gcd D (bG x)
theorem FV {D : Nat} (hD : 0 < D) (x : List Int) : G5 (qd x D) = (D / V8 D x : Nat) := by
 have key : ∀ (l : List Int) (g : Nat), g ∣ D → (qd l D).foldl (fun (d : Int) q => (d * q.den).tdiv (Int.gcd d q.den)) (D / g : Nat) = (D / (l.foldl (fun g c => Nat.gcd g c.natAbs) g) : Nat) := by
  intro l
  induction l with
  | nil => intro g _; rfl
  | cons a l ih =>
   intro g hg
   have h1 := ih (Nat.gcd g a.natAbs) (Nat.dvd_trans (Nat.gcd_dvd_left _ _) hg)
   simp only [qd, List.map_cons, List.foldl_cons] at h1 ⊢
   rw [aak, wR hD, UW hD hg (Nat.gcd_dvd_left _ _)]
   rw [show Nat.gcd g (Nat.gcd D a.natAbs) = Nat.gcd g a.natAbs by rw [← Nat.gcd_assoc, Nat.gcd_eq_left hg]]
   exact h1
 have h2 : ∀ (l : List Int) (g : Nat), l.foldl (fun g c => Nat.gcd g c.natAbs) g = Nat.gcd g (bG l) := by
  intro l
  unfold bG
  induction l with
  | nil => intro g; simp
  | cons a l ih =>
   intro g
   simp only [List.foldl_cons]
   rw [ih, ih (Nat.gcd 0 a.natAbs), Nat.gcd_zero_left, Nat.gcd_assoc]
 have h3 := key x D (Nat.dvd_refl _)
 rw [Nat.div_self hD, h2] at h3
 exact h3
theorem aal {D : Nat} (hD : 0 < D) (x : List Int) {G : Nat} (hG : G ∣ D) (hx : ∀ c ∈ x, (G : Int) ∣ c) : QQ (D / G : Nat) (qd x D) = (bG x / G : Nat) := by
 have hG0 : 0 < G := Nat.pos_of_dvd_of_pos hG hD
 have key : ∀ (l : List Int) (g : Nat), (∀ c ∈ l, (G : Int) ∣ c) → G ∣ g → (qd l D).foldl (fun (g : Int) q => (Int.gcd g ((q.num * ((D / G : Nat) : Int)).tdiv q.den) : Int)) (g / G : Nat) = ((l.foldl (fun g c => Nat.gcd g c.natAbs) g) / G : Nat) := by
  intro l
  induction l with
  | nil => intro g _ _; rfl
  | cons a l ih =>
   intro g hl hg
   have ha : G ∣ a.natAbs := Int.ofNat_dvd_left.1 (hl a (by simp))
   have h1 := ih (Nat.gcd g a.natAbs) (fun c hc => hl c (by simp [hc])) (Nat.dvd_gcd hg ha)
   simp only [qd, List.map_cons, List.foldl_cons] at h1 ⊢
   have e : ((cO a D).num * ((D / G : Nat) : Int)).tdiv (cO a D).den = a / (G : Int) := by
    rw [wS hD, wR hD]
    have NK : Nat.gcd D a.natAbs ∣ D := Nat.gcd_dvd_left _ _
    have S5 : Nat.gcd D a.natAbs ∣ a.natAbs := Nat.gcd_dvd_right _ _
    have hgp : 0 < Nat.gcd D a.natAbs := Nat.gcd_pos_of_pos_left _ hD
    generalize Nat.gcd D a.natAbs = k at *
    obtain ⟨m, hm⟩ := NK
    obtain ⟨n, hn⟩ : (k : Int) ∣ a := Int.ofNat_dvd_left.2 S5
    obtain ⟨p, hp⟩ := hG
    obtain ⟨r, hr⟩ := hl a (by simp)
    have K8 : 0 < m := by
     rcases Nat.eq_zero_or_pos m with h | h
     ·rw [h] at hm; omega
     ·exact h
    rw [show a / (k : Int) = n by rw [hn]; exact Int.mul_ediv_cancel_left _ (by omega), show D / G = p by rw [hp]; exact Nat.mul_div_cancel_left _ hG0, show D / k = m by rw [hm]; exact Nat.mul_div_cancel_left _ hgp,
     show a / (G : Int) = r by rw [hr]; exact Int.mul_ediv_cancel_left _ (by omega)]
    have e2 : n * (p : Int) = m * r := by
     have hDI : (k : Int) * m = G * p := by exact_mod_cast hm.symm.trans hp
     have hk : (k : Int) * n = G * r := hn.symm.trans hr
     have wL : (k : Int) ≠ 0 := by omega
     have hG1 : (G : Int) ≠ 0 := by omega
     have : (k : Int) * G * (n * p) = k * G * (m * r) := by
      have e3 : (k : Int) * G * (n * p) = (k * n) * (G * p) := by grind
      rw [e3, hk, ← hDI]; grind
     exact Int.eq_of_mul_eq_mul_left (Int.mul_ne_zero wL hG1) this
    rw [e2]
    exact Int.mul_tdiv_cancel_left _ (by omega)
   rw [e, show Int.gcd ((g / G : Nat) : Int) (a / (G : Int)) = Nat.gcd g a.natAbs / G from ?_]
   ·exact h1
   ·rw [Int.gcd, Int.natAbs_natCast, ← Nat.gcd_div hg ha]
    congr 1
    obtain ⟨r, hr⟩ := hl a (by simp)
    rw [hr, Int.mul_ediv_cancel_left _ (show (G : Int) ≠ 0 by omega), Int.natAbs_mul, Int.natAbs_natCast, Nat.mul_div_cancel_left _ hG0]
 have := key x 0 hx (Nat.dvd_zero _)
 rw [Nat.zero_div] at this
 exact this
theorem tW (D : Nat) (x : List Int) : V8 D x ∣ D := Nat.gcd_dvd_left _ _
theorem QR {D : Nat} (hD : 0 < D) (x : List Int) : 0 < V8 D x := Nat.gcd_pos_of_pos_left _ hD
theorem QS (D : Nat) (x : List Int) : ∀ c ∈ x, ((V8 D x : Nat) : Int) ∣ c := fun c hc => Int.dvd_trans (Int.ofNat_dvd.2 (Nat.gcd_dvd_right _ _)) (gB x c hc)
theorem wT {v : Int} {D : Nat} (hD : 0 < D) : (cO v D).num < 0 ↔ v < 0 := by
 rw [wS hD]
 have hg : 0 < Nat.gcd D v.natAbs := Nat.gcd_pos_of_pos_left _ hD
 obtain ⟨n, hn⟩ : ((Nat.gcd D v.natAbs : Nat) : Int) ∣ v := Int.ofNat_dvd_left.2 (Nat.gcd_dvd_right _ _)
 generalize Nat.gcd D v.natAbs = g at *
 rw [hn, Int.mul_ediv_cancel_left _ (show (g : Int) ≠ 0 by omega)]
 constructor
 ·intro h; exact Int.mul_neg_of_pos_of_neg (by omega) h
 ·intro h
  rcases Int.lt_or_le n 0 with h1 | h1
  ·exact h1
  ·have := Int.mul_nonneg (show (0 : Int) ≤ g by omega) h1
   omega
theorem aam {D : Nat} (hD : 0 < D) {x : List Int} (hx : 0 < x.length) : NT (qd x D) = cO (j1 x) D := by
 have uU : (D : Int) ≠ 0 := by omega
 have e : (nth (qd x D) ((qd x D).length - 1)).num < 0 ↔ lead x < 0 := by
  rw [FP uU, wT hD]; simp [lead]
 have hG := QR hD x
 have e2 : cO (QQ (G5 (qd x D)) (qd x D)) (G5 (qd x D)) = cO (bG x) D := by
  rw [FV hD, aal hD x (tW D x) (QS D x)]
  have h1 : D / V8 D x * V8 D x = D := Nat.div_mul_cancel (tW D x)
  have h2 : bG x / V8 D x * V8 D x = bG x := Nat.div_mul_cancel (Nat.gcd_dvd_right _ _)
  have h3 : 0 < D / V8 D x := Nat.div_pos (Nat.le_of_dvd hD (tW D x)) hG
  have h4 := QO (v := (bG x / V8 D x : Nat)) (D := (D / V8 D x : Nat)) (l := (V8 D x : Nat)) (by omega) (by omega)
  rw [← Int.natCast_mul, ← Int.natCast_mul, h1, h2] at h4
  exact h4.symm
 unfold NT j1
 rw [e2]
 by_cases h : lead x < 0
 ·rw [if_pos (e.2 h), if_pos h, ← QP uU]; grind
 ·rw [if_neg (fun h2 => h (e.1 h2)), if_neg h]
theorem QT {v D : Int} (hD : D ≠ 0) (hv : v ≠ 0) : 1 / cO v D = cO D v := by
 rw [dX hD, dX hv]
 have h1 := fH hD
 have h2 := fH hv
 grind
theorem NU {x : List Int} (cx : Cn x) (hx : x ≠ []) : j1 x ≠ 0 := by
 have h0 := mC x
 have gx := bW cx hx
 omega
theorem ajM {D : Nat} (hD : 0 < D) {x : List Int} (cx : Cn x) (hx : x ≠ []) : qpr (qd x D) = qs (pV x) := by
 have nM := List.length_pos_iff.2 hx
 have uU : (D : Int) ≠ 0 := by omega
 have hp := NU cx hx
 have hc := fH hp
 have hDc := fH uU
 rw [qpr, aam hD nM, QT uU hp, jD, pV, ← tQ]
 congr 1
 simp only [qd, qs, List.map_map]
 refine List.map_congr_left fun v hv => ?_
 simp only [Function.comp_apply]
 obtain ⟨w, rfl⟩ := FN x v hv
 have : oZ (j1 x) (j1 x * w) = w := by
  unfold oZ
  rw [if_pos (Int.mul_emod_right _ _)]
  exact Int.mul_ediv_cancel_left _ hp
 rw [this, dX uU, dX hp, Rat.intCast_mul]
 grind
theorem JR (x : List Int) : iX x = if lead x < 0 then fJ (pV x) else pV x := by
 unfold pV j1
 split
 ·have e : ∀ v, oZ (-(bG x : Int)) v = - oZ (bG x) v := fun v => by
   unfold oZ
   rw [Int.emod_neg, Int.ediv_neg]
   split <;> simp
  refine Cn.ext (Cn.cut _) (Cn.fJ _) fun t => ?_
  rw [zA, cA, iX, cA]
  have h1 := fM (t := t) (-1) (oZ (bG x)) x
  have h2 : (x.map fun v => oZ (bG x) v * -1) = x.map (oZ (-(bG x : Int))) := List.map_congr_left fun v _ => by rw [e]; omega
  rw [h2] at h1
  rw [h1]; omega
 ·rfl
theorem NV (x : List Int) (D : Nat) (hD : 0 < D) {s n : Nat} (hx : Bd 2 s n x) (sD : sz 2 D ≤ s) (cx : Cn x) (h0 : x ≠ []) (qO : 1 ≤ s) (hs : s ≤ YY) (hn : n < 1099511627776) :
  aI env.P 191 [PP (qd x D)] (.eP [RR (cO (j1 x) D), PI (pV x)]) := by
 have uU : (D : Int) ≠ 0 := by omega
 have nM := List.length_pos_iff.2 h0
 have hp := NU cx h0
 have hlen := hx.len
 have sdiv : ∀ (a b : Nat), sz 2 (a : Int) ≤ s → sz 2 ((a / b : Nat) : Int) ≤ s := fun a b h => Nat.le_trans (cC (by decide) (by rw [Int.natAbs_natCast, Int.natAbs_natCast]; exact Nat.div_le_self a b)) h
 have spc : sz 2 (j1 x) ≤ s := by
  have := kR hx.sz
  refine Nat.le_trans (cC (by decide) (Nat.le_of_eq ?_)) this
  rw [mC]; rfl
 have tk : ∀ i, (qd x D).take i = qd (x.take i) D := fun i => by simp [qd, List.map_take]
 have hc := aam hD nM
 have h1 := pW (qd x D) (k := s) hs qO (fun q hq => by
   simp only [List.mem_map] at hq
   obtain ⟨v, hv, rfl⟩ := hq
   exact sF uU (hx.sz v hv) sD) (by simp; omega) (by simpa using h0)
  (fun i => by rw [tk, FV hD]; exact sdiv _ _ sD)
  (fun i => by
   rw [tk, FV hD]
   have := Nat.div_pos (Nat.le_of_dvd hD (tW D (x.take i))) (QR hD _)
   omega)
  (fun i => by
   rw [tk, FV hD, aal hD (x.take i) (tW D x) (fun c hc => QS D x c (List.mem_of_mem_take hc))]
   exact sdiv _ _ (kR fun c hc => hx.sz c (List.mem_of_mem_take hc)))
  (by rw [hc]; exact sF uU (Nat.le_trans spc hs) (Nat.le_trans sD hs))
  (by rw [hc]; exact fun h => hp ((wQ uU).1 h))
  (by rw [hc, QT uU hp]; exact sF hp (Nat.le_trans sD hs) (Nat.le_trans spc hs))
 rw [hc, ajM hD cx h0, oQ] at h1
 exact h1
theorem aan {x : List Int} {s n : Nat} (hx : Bd 2 s n x) : Bd 2 s n (pV x) := Bd.cut ⟨by simpa using hx.len, fun c hc => by
 simp only [List.mem_map] at hc
 obtain ⟨v, hv, rfl⟩ := hc
 refine Nat.le_trans (cC (by decide) ?_) (hx.sz v hv)
 unfold oZ
 split
 ·exact Int.natAbs_ediv_le_natAbs _ _
 ·simp⟩
theorem JS (x : List Int) (D : Nat) (hD : 0 < D) {s n : Nat} (hx : Bd 2 s n x) (sD : sz 2 D ≤ s) (cx : Cn x) (qO : 1 ≤ s) (hs : s ≤ YY) (hn : n < 1099511627776) :
  aI env.P 124 [PP (qd x D)] (PI (iX x)) := by
 have uU : (D : Int) ≠ 0 := by omega
 have bp := aan hx
 have hN := DH (pV x) (bp.mono hs (by omega))
 rw [JR]
 have hP : ∃ q : Rat, aI env.P 191 [PP (qd x D)] (.eP [RR q, PI (pV x)]) ∧ (q.num < 0 ↔ lead x < 0) := by
  by_cases h0 : x = []
  ·subst h0
   refine ⟨(j1 [] : Int), ?_, ?_⟩
   ·have := z8 [] hx cx qO hs hn
    rw [RR, eN]
    exact this
   ·rw [show j1 ([] : List Int) = 0 by decide]; decide
  ·refine ⟨_, NV x D hD hx sD cx h0 qO hs hn, ?_⟩
   rw [wT hD]
   have gx := bW cx h0
   unfold j1
   split <;> omega
 obtain ⟨q, hP, hq⟩ := hP
 generalize pV x = y at *
 generalize qd x D = l at *
 refine aB (E := env) (fun _ => 0) [(0, PP l)] Tryz.func124 rfl (by kernel_rfl) (by kernel_rfl) (show 1 ≤ 16 by decide) (by simp) ?_
 refine W.sr ?_; simp (disch := omega) [gw]; refine W.lx [0] ?_; simp
 refine W.sr ?_
 simp (disch := omega) [gw]
 refine aA hP ?_
 simp (disch := omega) [gw]
 refine W.lx [3, 4] ?_; simp
 refine W.seq ?_
 refine W.sr ?_; simp (disch := omega) [gw]; refine W.lx [4, 12] ?_; simp
 refine W.cond ⟨_, rfl, fun h => ?_, fun h => ?_⟩
 ·simp at h
  rw [if_pos (hq.1 h)]
  refine W.sr ?_
  simp (disch := omega) [gw]
  refine aA hN ?_
  simp (disch := omega) [gw]
  refine W.lx [2] ?_; simp
  refine W.ret ?_
  simp [go]
 ·have h : ¬ q.num < 0 := by simpa using h
  rw [if_neg (fun h2 => h (hq.2 h2))]
  refine W.skip ?_
  refine W.sr ?_; simp (disch := omega) [gw]; refine W.lx [2] ?_; simp
  refine W.ret ?_
  simp [go]
theorem JT (x y : List Int) {s s' N : Nat} (hx : Bd 2 s N x) (hy : Bd 2 s' N y) (cx : Cn x) (cy : Cn y) (NA : 0 < y.length) (hs : 1 ≤ s) (hB : s + (N + 1) * (s' + N + 2) + s' + N + N + 10 < 137438953472) :
  aI env.P 172 [PP (qs x), PP (qs y)] (.eP [PP (qd (aM (dmd x y).Q) (dmd x y).D), PP (qd (dmd x y).r (dmd x y).D)]) := by
 have hNx := hx.len
 have hNy := hy.len
 have hl := cD cy NA
 have hls := eT hy
 have hM : x.length + 1 ≤ N + 1 := by omega
 refine aB (E := env) (fun id => if id = 17 then 2 else 0) [(0, PP (qs x)), (1, PP (qs y))] Tryz.func172 rfl (by kernel_rfl) (by kernel_rfl) (show 2 ≤ 84 by decide) (by simp) ?_
 obtain ⟨R0, HN⟩ : ∃ R0, R0 = UT y (x.length + 1) ⟨List.replicate (iH x y) 0, x, 1⟩ := ⟨_, rfl⟩
 rw [show dmd x y = R0 from HN.symm]
 have hkN : iH x y ≤ N := by unfold iH; omega
 have hkk : (if (x.length : Int) - (y.length : Int) + 1 < 0 then 0 else (x.length : Int) - (y.length : Int) + 1) = (iH x y : Int) := by unfold iH; split <;> omega
 have hI0 : sG x y ⟨List.replicate (iH x y) 0, x, 1⟩ := sG.start cx
 generalize wL : iH x y = k0 at *
 obtain ⟨a0, ha0⟩ : ∃ a0, a0 = qs x := ⟨_, rfl⟩
 obtain ⟨yq, hyq⟩ : ∃ yq, yq = qs y := ⟨_, rfl⟩
 have la0 : a0.length = x.length := by rw [ha0]; simp
 have lyq : yq.length = y.length := by rw [hyq]; simp
 rw [← ha0, ← hyq]
 refine W.sr ?_; simp (disch := omega) [gw]; refine W.lx [0, 1] ?_; simp
 refine W.sr ?_
 simp (disch := omega) [gw, la0, lyq, hkk]
 refine W.lx [0, 1, 6] ?_; simp
 refine W.seq ?_
 refine W.sr ?_; simp (disch := omega) [gw]; refine W.lx [0, 1, 6, 21, 22] ?_; simp
 refine W.block ?_
 refine W.a9 (fun k σ => ∃ (i ver : Nat) (els : List (List PV)) (rows : Pm.Rows) (clk : Nat), σ = ⟨fa [(0, PP a0), (1, PP yq), (6, .own 19 ver 0 k0), (21, .int .i64 k0), (22, .int .i64 i)], rows, clk⟩ ∧
  rows 19 = some ⟨ver, 50, 4, els⟩ ∧ els.length = k0 ∧ (∀ e ∈ els, e.length = 4) ∧ els.take i = emap ri (List.replicate i 0) ∧ k = k0 - i ∧ i ≤ k0) k0 ?_ ?_
 ·exact ⟨_, .refl, 0, _, List.replicate k0 [.nil, .bool false, .nil, .bool false], _, _, rfl, by simp, by simp, by simp, by simp [emap], by omega, by omega⟩
 rintro k _ ⟨i, ver, els, rows, clk, rfl, hr, kX, JI, oU, hk, hi⟩
 have M8 : bB 4 els = True := by simp only [bB, eq_iff_iff, iff_true]; exact JI
 refine W.sr ?_; simp (disch := omega) [gw]; refine W.lx [0, 1, 6, 21, 22, 23] ?_; simp
 refine W.seq ?_
 refine W.cond ⟨_, rfl, fun h => ?_, fun h => ?_⟩
 ·have h : i < k0 := by simp at h; omega
  refine W.skip ?_
  refine W.seq ?_
  refine W.block ?_
  refine W.sr ?_; simp (disch := omega) [gw]; refine W.lx [0, 1, 6, 7, 21, 22] ?_; simp
  refine W.b8 (fun K hK => ?_)
  simp (disch := omega) [gw]
  refine aA nE ?_
  have sE : i < els.length := by omega
  have hE : rQ els i 4 = True := by
   simp only [eq_iff_iff, iff_true]
   exact ⟨els[i], List.getElem?_eq_getElem sE, by rw [JI _ (List.getElem_mem sE)]; omega⟩
  have hS : gN els i 0 [aJ aF (aQ DD 0), .bool false, aJ aF (aQ DD 1), .bool false] = els.set i (ri 0) := by
   have h4 := JI _ (List.getElem_mem sE)
   rw [gN, List.getElem?_eq_getElem sE]
   simp [List.drop_of_length_le, h4]
  simp (disch := omega) [gw, hr, hE, hS]
  refine W.lw [0, 1, 6, 21, 22] hK ?_; clear hK K; simp
  refine W.b8 (fun K hK => ?_); simp (disch := omega) [gw]
  refine hK _ ⟨k0 - (i + 1), _, aC _ [0, 1, 6, 21, 22], by omega, i + 1, ver, els.set i (ri 0), _, _, rfl, by simp, by simpa using kX, fun e he => ?_, ?_, by omega, by omega⟩
  ·rcases List.mem_or_eq_of_mem_set he with h1 | h1
   ·exact JI e h1
   ·rw [h1]; rfl
  ·rw [kC oU (by omega), List.replicate_succ']
   simp [emap]
 have h : i = k0 := by simp at h; omega
 subst h
 have rA : els = emap re (qd (List.replicate i 0) 1) := by rw [FQ, z6, ← oU, bE kX]
 subst rA
 rw [show a0 = qd x 1 by rw [ha0, FQ]]
 clear oU JI kX M8 hk hi hkk ha0 la0 a0
 refine W.exit ?_; simp only [pX, if_true, if_false, reduceIte, Nat.reduceEqDiff]
 refine W.seq ?_
 refine W.block ?_
 generalize hdd : s' + N + 2 = d at *
 have Z4 : ∀ j, (x.length + 1 - j) * d ≤ (N + 1) * d := fun j => Nat.mul_le_mul_right _ (by omega)
 refine W.a9 (fun n σ => ∃ (Q r : List Int) (D : Int) (v6 : Nat) (rows : Pm.Rows) (clk : Nat), σ = ⟨fa [(0, PP (qd r D)), (1, PP yq), (6, .own 19 v6 0 i)], rows, clk⟩ ∧
  rows 19 = some ⟨v6, 50, 4, emap re (qd Q D)⟩ ∧ Q.length = i ∧ sG x y ⟨Q, r, D⟩ ∧ r.length < n ∧ n ≤ x.length + 1 ∧ UT y n ⟨Q, r, D⟩ = R0 ∧ Bd 2 (s + (x.length + 1 - n) * d) N r ∧ sz 2 D ≤ s + (x.length + 1 - n) * d) (x.length + 1) ?_ ?_
 ·exact ⟨_, aC _ [0, 1, 6], _, x, 1, _, _, _, rfl, hr, by simp, hI0, by omega, by omega, HN.symm, hx.mono (by omega) (by omega), Nat.le_trans (cN (k := 1) (by decide) (by decide)) (by omega)⟩
 clear hr rows clk ver
 rintro n _ ⟨Q, r, D, v6, rows, clk, rfl, hr, hQ, hI, hrn, hnM, hd, br, bD⟩
 have hD : D ≠ 0 := hI.d
 have T7 := Z4 n
 obtain ⟨a, ha⟩ : ∃ a, a = qd r D := ⟨_, rfl⟩
 have la : a.length = r.length := by rw [ha]; simp
 rw [← ha]
 refine W.seq ?_
 refine W.sr ?_
 simp (disch := omega) [gw, la, lyq]
 refine W.lx [0, 1, 6, 34] ?_; simp
 refine W.cond ⟨_, rfl, fun h => ?_, fun h => ?_⟩
 ·have h : y.length ≤ r.length := by simp at h; omega
  obtain ⟨n, rfl⟩ : ∃ m, n = m + 1 := ⟨n - 1, by omega⟩
  obtain ⟨k, hk⟩ : ∃ k, k = r.length - y.length := ⟨_, rfl⟩
  have hkI : (r.length : Int) - (y.length : Int) = k := by omega
  have hki : k < i := by have := hI.q.resolve_right (show ¬ r.length < y.length by omega); simp only at this; omega
  have hI2 := hI.step cy NA h
  have ZC := FR (σ := ⟨Q, r, D⟩) NA h
  rw [UT, if_neg (show ¬ r.length < y.length by omega)] at hd
  simp only [dst, ← hk] at hI2 ZC hd
  have hT : s + (x.length + 1 - n) * d = s + (x.length + 1 - (n + 1)) * d + d := by
   rw [show x.length + 1 - n = (x.length + 1 - (n + 1)) + 1 by omega, Nat.add_mul, Nat.one_mul]; omega
  have hn3 := Z4 n
  generalize hU : s + (x.length + 1 - (n + 1)) * d = U at *
  have hlr := eT br
  have hNr := br.len
  have G3 : D * lead y ≠ 0 := Int.mul_ne_zero hD hl
  have zD2 : sz 2 (D * lead y) ≤ U + s' := bS (by decide) bD hls
  have hp : nth a (r.length - 1) = cO (lead r) D := by rw [ha, FP hD]; rfl
  have LC : nth yq (y.length - 1) = (lead y : Rat) := by rw [hyq, Z3]; rfl
  have apq := z0 (cO (lead r) D) (lead y : Rat) (sF hD (Nat.le_trans hlr (by show U ≤ 137438953472; omega)) (Nat.le_trans bD (by show U ≤ 137438953472; omega))) (mS (Nat.le_trans hls (by show s' ≤ 137438953472; omega)) (by decide)) (fH hl)
  rw [aed hD hl] at apq
  have hSc := n6 yq (cO (lead r) (D * lead y)) (by rw [hyq]; exact UM.qs (fun c hc => Nat.le_trans (hy.sz c hc) (by show s' ≤ 137438953472; omega)) (by omega)) (sF G3 (Nat.le_trans hlr (by show U ≤ 137438953472; omega)) (Nat.le_trans zD2 (by show U + s' ≤ 137438953472; omega)))
  rw [hyq, US G3, ← hyq] at hSc
  have bsc : Bd 2 (U + s') N (aV y (lead r)) := (hy.aV (by decide) hlr).mono (by omega) (by omega)
  have bw : Bd 2 (U + s') N (List.replicate k 0 ++ aV y (lead r)) := ⟨by have := nY y (lead r); simp; omega, fun c hc => by
   rcases List.mem_append.1 hc with h1 | h1
   ·rw [(List.mem_replicate.1 h1).2, jA]; omega
   ·exact bsc.sz c h1⟩
  have brl : Bd 2 (U + s') N (r.map (· * lead y)) := ⟨by simpa using br.len, fun c hc => by
   simp only [List.mem_map] at hc
   obtain ⟨v, hv, rfl⟩ := hc
   exact bS (by decide) (br.sz v hv) hls⟩
  have hSu := aaf (qd (r.map (· * lead y)) (D * lead y)) (qd (List.replicate k 0 ++ aV y (lead r)) (D * lead y)) _
   (NS G3 brl zD2 (by show U + s' ≤ 137438953472; omega) (by omega)) (NS G3 bw zD2 (by show U + s' ≤ 137438953472; omega) (by omega)) (aef G3 _) (NS G3 bw.fJ zD2 (by show U + s' ≤ 137438953472; omega) (by omega))
  rw [aee G3, NR hD hl, ← ha] at hSu
  have er : fZ (r.map (· * lead y)) (fJ (List.replicate k 0 ++ aV y (lead r))) = uS y (lead y) (lead r) k r := Cn.ext (Cn.fZ _ _) (Cn.dY _ _) fun t => by
   rw [pM, c8, zA, dF, oN, bV, uS, gR, bV, cL, l9, List.length_replicate]; grind
  have br2 : Bd 2 (U + d) N (uS y (lead y) (lead r) k r) := by
   rw [← er]
   exact (Bd.fZ (by decide) brl bw.fJ).mono (by omega) (by omega)
  rw [er] at hSu
  have ew : qd (List.replicate k 0 ++ aV y (lead r)) (D * lead y) = List.replicate k 0 ++ qd (aV y (lead r)) (D * lead y) := by
   simp only [qd, List.map_append, List.map_replicate, tT G3]
  rw [ew] at hSu
  have lb : (qd (aV y (lead r)) (D * lead y)).length ≤ N := by have := bsc.len; simpa using this
  have Z5 : (qd Q D).set k (cO (lead r) (D * lead y)) = qd ((Q.map (· * lead y)).set k (lead r)) (D * lead y) := by
   rw [← NR hD hl Q, qd, qd, List.map_set]
  have hQl : (qd Q D).length = i := by simpa using hQ
  refine W.skip ?_
  refine W.block ?_
  generalize hz : qd Q D = z at *
  generalize qd (aV y (lead r)) (D * lead y) = b at *
  generalize NW : cO (lead r) (D * lead y) = c at *
  generalize hp2 : cO (lead r) D = p at *
  generalize hlq : (lead y : Rat) = lq at *
  generalize ha2 : qd (uS y (lead y) (lead r) k r) (D * lead y) = a2 at *
  refine W.sr ?_; simp (disch := omega) [gw, la, lyq, hkI]; refine W.lx [0, 1, 6, 8] ?_; simp
  have ayR : 0 < r.length := by omega
  have e1 : ((r.length : Int) - 1).toNat = r.length - 1 := by omega
  have e2 : ((y.length : Int) - 1).toNat = y.length - 1 := by omega
  refine W.sd ?_
  simp (disch := omega) [gw, la, lyq, e1, e2, hp, LC]
  refine aA apq ?_
  simp (disch := omega) [gw]
  rw [if_pos (by kernel_rfl)]
  simp (disch := omega) [gw]
  refine W.lx [0, 1, 6, 8, 9] ?_; simp
  have hkl : k < z.length := by omega
  refine W.sr ?_; simp (disch := omega) [gw, hr, hkl]; refine W.lx [0, 1, 6, 8, 9] ?_; simp
  refine W.sr ?_; simp (disch := omega) [gw]; refine W.lx [0, 1, 6, 8, 9, 10] ?_; simp
  refine W.seq ?_
  refine W.sr ?_; simp (disch := omega) [gw]; refine W.lx [0, 1, 6, 8, 9, 10, 60, 61] ?_; simp
  refine W.block ?_
  refine W.a9 (fun m σ => ∃ (j v9 v10 v6 : Nat) (els : List (List PV)) (rows : Pm.Rows) (clk : Nat), σ = ⟨fa [(0, PP a), (1, PP yq), (6, .own 19 v6 0 i), (9, .ptr 9 v9 0 0), (10, .own 58 v10 0 k), (60, .int .i64 k), (61, .int .i64 j)], rows, clk⟩ ∧
   rows 19 = some ⟨v6, 50, 4, emap re (z.set k c)⟩ ∧ rows 9 = some ⟨v9, 50, 4, [[aJ aF (aQ DD c.num.natAbs), .bool (decide (c.num < 0)), aJ aF (aQ DD c.den), .bool false]]⟩ ∧
   rows 58 = some ⟨v10, 50, 4, els⟩ ∧ els.length = k ∧ (∀ e ∈ els, e.length = 4) ∧ els.take j = emap ri (List.replicate j 0) ∧ m = k - j ∧ j ≤ k) k ?_ ?_
  ·exact ⟨_, aC _ [0, 1, 6, 9, 10, 60, 61], 0, _, _, _, List.replicate k [.nil, .bool false, .nil, .bool false], _, _, rfl, by simp [hr], by simp, by simp, by simp, by simp, by simp [emap], by omega, by omega⟩
  clear hr rows clk v6
  rintro m _ ⟨j, v9, v10, v6, els, rows, clk, rfl, hr, hr9, JK, kX, JI, oU, hm, hj⟩
  have M8 : bB 4 els = True := by simp only [bB, eq_iff_iff, iff_true]; exact JI
  refine W.sr ?_; simp (disch := omega) [gw]; refine W.lx [0, 1, 6, 9, 10, 60, 61, 62] ?_; simp
  refine W.seq ?_
  refine W.cond ⟨_, rfl, fun h => ?_, fun h => ?_⟩
  ·have h : j < k := by simp at h; omega
   refine W.skip ?_
   refine W.seq ?_
   refine W.block ?_
   refine W.sr ?_; simp (disch := omega) [gw]; refine W.lx [0, 1, 6, 9, 10, 11, 60, 61] ?_; simp
   refine W.b8 (fun K hK => ?_)
   simp (disch := omega) [gw]
   refine aA nE ?_
   have sE : j < els.length := by omega
   have hE : rQ els j 4 = True := by
    simp only [eq_iff_iff, iff_true]
    exact ⟨els[j], List.getElem?_eq_getElem sE, by rw [JI _ (List.getElem_mem sE)]; omega⟩
   have hS : gN els j 0 [aJ aF (aQ DD 0), .bool false, aJ aF (aQ DD 1), .bool false] = els.set j (ri 0) := by
    have h4 := JI _ (List.getElem_mem sE)
    rw [gN, List.getElem?_eq_getElem sE]
    simp [List.drop_of_length_le, h4]
   simp (disch := omega) [gw, JK, hE, hS]
   refine W.lw [0, 1, 6, 9, 10, 60, 61] hK ?_; clear hK K; simp
   refine W.b8 (fun K hK => ?_); simp (disch := omega) [gw]
   refine hK _ ⟨k - (j + 1), _, aC _ [0, 1, 6, 9, 10, 60, 61], by omega, j + 1, v9, v10, v6, els.set j (ri 0), _, _, rfl, by simp [hr], by simp [hr9], by simp, by simpa using kX, fun e he => ?_, ?_, by omega, by omega⟩
   ·rcases List.mem_or_eq_of_mem_set he with h1 | h1
    ·exact JI e h1
    ·rw [h1]; rfl
   ·rw [kC oU (by omega), List.replicate_succ']
    simp [emap]
  have h : j = k := by simp at h; omega
  subst h
  have rA : els = emap re (List.replicate j 0) := by
   have h1 : emap ri (List.replicate j 0) = emap re (List.replicate j 0) := by simp [emap, eN]
   rw [← h1, ← oU, bE kX]
  subst rA
  clear oU JI kX M8
  refine W.exit ?_; simp only [pX, if_true, if_false, reduceIte, Nat.reduceEqDiff]
  refine W.M3 (fun K hK => ?_)
  rw [if_pos rfl, dQ]
  have hsl : ((List.take r.length a).drop 0) = a := by rw [List.drop_zero, List.take_of_length_le (by omega)]
  simp (disch := omega) [gw, la, lyq, hr9, EW, hsl]
  refine aA hSc ?_
  have uR : List.take (j + b.length) (List.replicate j 0 ++ b) = List.replicate j 0 ++ b := List.take_of_length_le (by simp)
  simp (disch := omega) [gw, JK, uR]
  refine aA hSu ?_
  simp (disch := omega) [gw]
  subst ha2
  have cI : rows 19 = some ⟨v6, 50, 4, emap re (qd ((Q.map (· * lead y)).set j (lead r)) (D * lead y))⟩ := by rw [hr, Z5]
  refine hK _ ⟨n, _, aC _ [0, 1, 6], by omega, (Q.map (· * lead y)).set j (lead r), uS y (lead y) (lead r) j r, D * lead y, v6, _, _, rfl, by simp [cI], by simpa using hQ, hI2, by omega, by omega, hd, ?_, ?_⟩
  ·rw [hT]; exact br2
  ·rw [hT]; exact Nat.le_trans zD2 (by omega)
 ·have h : r.length < y.length := by simp at h; omega
  rw [aeg h] at hd
  subst hd
  refine W.exit ?_; simp only [pX, if_true, if_false, reduceIte, Nat.reduceEqDiff]
  have hcq := tR (qd Q D) (by simp; omega)
  rw [tU hD] at hcq
  have hQl : (qd Q D).length = i := by simpa using hQ
  have uT := bE hQl
  rw [← ha]
  generalize qd Q D = z at *
  generalize qd (aM Q) D = z2 at *
  refine W.sr ?_
  simp (disch := omega) [gw, hr, uT]
  refine aA hcq ?_
  simp (disch := omega) [gw]
  refine W.lx [4, 5] ?_; simp
  refine W.ret ?_
  simp [go]
theorem JU {x y : List Int} (cy : Cn y) (hy : 0 < y.length) : ∀ (j : Nat), j ≤ x.length → Z9 y j (List.replicate j 0 ++ x.drop j) (bH (aM (x.take j)) y) = some (x, [])
 | 0, _ => by
  have : bH (aM (x.take 0)) y = [] := Cn.ext (Cn.bH _ _) Cn.nil fun t => by rw [cL, cA]; simp [V]
  rw [Z9, this]; rfl
 | j + 1, h => by
  have ih := JU (x := x) cy hy j (by omega)
  have hly := cD cy hy
  have ht := a8 (l := x) (i := j) (by omega)
  have hdr : x.drop j = nth x j :: x.drop (j + 1) := by
   rw [List.drop_eq_getElem_cons (l := x) (i := j) (by omega), show nth x j = x[j] from cS (by omega)]
  rw [Z9]
  by_cases hv : nth x j = 0
  ·have hw : aM (x.take (j + 1)) = aM (x.take j) := by rw [ht, hv, iP]
   rw [hw]
   have h1 := pO (x := aM (x.take j)) hy
   have h2 := bM (x.take j)
   rw [List.length_take] at h2
   rw [if_pos (by omega), ← ih]
   rw [hdr, hv, List.replicate_succ', List.append_assoc]; rfl
  ·have hw : aM (x.take (j + 1)) = x.take j ++ [nth x j] := by rw [ht]; exact fP hv _
   have cw : Cn (x.take j ++ [nth x j]) := fP hv _
   have hwl : (x.take j ++ [nth x j]).length = j + 1 := by simp; omega
   have hlw : lead (x.take j ++ [nth x j]) = nth x j := by
    rw [lead, hwl, Nat.add_sub_cancel, cS (by omega)]
    have : (x.take j).length = j := by simp; omega
    simp [List.getElem_append_right, this]
   rw [hw]
   have hl := iS cw cy (by omega) hy
   have hd := u6 cw cy (by omega) hy
   rw [hwl] at hl
   rw [hlw] at hd
   rw [if_neg (by omega), hd, if_pos (Int.mul_emod_left _ _), Int.mul_ediv_cancel _ hly]
   have e1 : dY (bH (x.take j ++ [nth x j]) y) (bH (oT j (nth x j)) y) = bH (aM (x.take j)) y := Cn.ext (Cn.dY _ _) (Cn.bH _ _) fun t => by
    rw [gR, cL, cL, cL, cA, dF, lZ, l9, show (x.take j).length = j by simp; omega]
    grind
   have e2 : (List.replicate (j + 1) 0 ++ x.drop (j + 1)).set j (nth x j) = List.replicate j 0 ++ x.drop j := by
    rw [hdr, List.replicate_succ', List.append_assoc, List.set_append_right _ _ (by simp)]
    simp
   rw [e1, e2]
   exact ih
theorem NX {x y : List Int} (cx : Cn x) (cy : Cn y) (hy : 0 < y.length) : exact (bH x y) y = some x := by
 have hk : iH (bH x y) y = x.length := by
  rcases Nat.eq_zero_or_pos x.length with h | h
  ·have : x = [] := List.eq_nil_of_length_eq_zero h
   have e : bH x y = [] := Cn.ext (Cn.bH _ _) Cn.nil fun t => by rw [cL, this]; simp [V]
   rw [e, this]; simp [iH]; omega
  ·have := iS cx cy h hy
   unfold iH; omega
 have h1 := JU (x := x) cy hy x.length (Nat.le_refl _)
 rw [List.take_length, show aM x = x from cx, List.drop_length, List.append_nil] at h1
 rw [exact, hk, h1, exF, show aM x = x from cx]
theorem FW {y h : List Int} (cy : Cn y) (hy : 0 < y.length) (e : ∀ t, V t y * V t h = 0) : aM h = [] := by
 by_cases hh : aM h = []
 ·exact hh
 ·exfalso
  have h1 : bH y (aM h) = [] := Cn.ext (Cn.bH _ _) Cn.nil fun t => by rw [cL, cA, e]; rfl
  have h2 := iS cy (Cn.cut h) hy (List.length_pos_iff.2 hh)
  rw [h1] at h2
  have := List.length_pos_iff.2 hh
  simp at h2; omega
theorem JV {a b : List Int} (h : aM (dY a b) = []) (t : Int) : V t a = V t b := by
 have h1 := gR (t := t) a b
 rw [← cA, h] at h1
 have : V t ([] : List Int) = 0 := rfl
 omega
theorem UX {D : Int} (h : D ≠ 0) (x : List Int) : qd (x.map (· * D)) D = qs x := by
 have := NR (D := 1) (l := D) (by decide) h x
 rw [Int.one_mul, FQ] at this
 exact this
theorem aao {x y q : List Int} (cx : Cn x) (cy : Cn y) (hy : 0 < y.length) (cq : Cn q) (h : ∀ t, V t x = V t q * V t y) : qd (aM (dmd x y).Q) (dmd x y).D = qs q ∧ (dmd x y).r = [] := by
 obtain ⟨hI, hr⟩ := aeh cx cy hy
 generalize dmd x y = σ at *
 have hv := hI.v
 have e : ∀ t, V t σ.r = V t y * V t (dY (q.map (· * σ.D)) σ.Q) := fun t => by
  have h1 := hv t
  rw [h] at h1
  rw [gR, c8]
  grind
 have h1 := C4 hI.c cy hy e hr
 have h2 : aM (dY (q.map (· * σ.D)) σ.Q) = [] := FW cy hy fun t => by rw [← e, h1]; rfl
 have e2 : aM σ.Q = q.map (· * σ.D) := Cn.ext (Cn.cut _) (jZ cq hI.d) fun t => by rw [cA]; exact (JV h2 t).symm
 rw [e2]
 exact ⟨UX hI.d q, h1⟩
end Go.Proofs.YtbbjgncblhfegaaGreat
