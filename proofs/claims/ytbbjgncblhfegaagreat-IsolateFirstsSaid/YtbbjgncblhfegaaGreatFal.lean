import Derived.Test.YtbbjgncblhfegaaGreatFaf
import Derived.Test.YtbbjgncblhfegaaGreatFak
set_option linter.unusedSimpArgs false
set_option linter.unusedVariables false
namespace Go.Proofs.YtbbjgncblhfegaaGreat
open Go Pm
theorem ad6 (x : List Int) : kZ (x.map rE) = aM x := by simp only [kZ, bS]
theorem jT {x : List Int} (hx : Cn x) {m : Int} (hm : m ≠ 0) : Cn (x.map (· * m)) := by
 rcases Nat.eq_zero_or_pos x.length with h | h
 ·have : x = [] := List.eq_nil_of_length_eq_zero h
  subst this; rfl
 ·have e := r8 h
  have : x.map (· * m) = (x.take (x.length - 1)).map (· * m) ++ [lead x * m] := by
   conv => lhs; rw [e]
   simp
  rw [this]
  exact jB (Int.mul_ne_zero (cH hx h) hm) _
theorem qP {x : List Int} (hx : Cn x) {m : Int} (hm : m ≠ 0) : aX x m = x.map (· * m) := jT hx hm
theorem NV {x : List Int} (hx : Cn x) : aX x 1 = x := Cn.ext (Cn.aX _ _) hx fun t => by rw [bV]; omega
theorem NW (x : List Int) : fJ x = aX x (-1) := Cn.ext (Cn.fJ _) (Cn.aX _ _) fun t => by rw [zS, bV]; omega
theorem jU (m : Int) (x : List Int) : bI (x.map (· * m)) = bI x * m.natAbs := by
 have key : ∀ (l : List Int) (g : Nat), (l.map (· * m)).foldl (fun g c => Nat.gcd g c.natAbs) (g * m.natAbs) = l.foldl (fun g c => Nat.gcd g c.natAbs) g * m.natAbs := by
  intro l
  induction l with
  | nil => intro g; rfl
  | cons c l ih =>
   intro g
   simp only [List.map_cons, List.foldl_cons]
   rw [Int.natAbs_mul, Nat.gcd_mul_right, ih]
 have := key x 0
 rw [Nat.zero_mul] at this
 exact this
theorem UQ {m : Int} (hm : 0 < m) (g v : Int) : oV (g * m) (v * m) = oV g v := by
 unfold oV
 rw [Int.mul_comm v, Int.mul_comm g, Int.mul_emod_mul_of_pos _ _ hm, Int.mul_ediv_mul_of_pos _ _ hm]
 have : m * (v % g) = 0 ↔ v % g = 0 := by
  constructor
  ·intro h
   rcases Int.mul_eq_zero.1 h with h | h
   ·omega
   ·exact h
  ·intro h; rw [h]; simp
 simp only [this]
theorem NX {m : Int} (hm : 0 < m) (x : List Int) : iY (x.map (· * m)) = iY x := by
 unfold iY
 rw [jU, List.map_map]
 congr 1
 refine List.map_congr_left fun v _ => ?_
 simp only [Function.comp_apply]
 have : ((bI x * m.natAbs : Nat) : Int) = (bI x : Int) * m := by rw [Int.natCast_mul]; congr 1; omega
 rw [this, UQ hm]
theorem wZ {x : List Int} (hx : Cn x) {m : Int} (hm : 0 < m) : iY (aX x m) = iY x := by rw [qP hx (by omega), NX hm]
def sg (c : Int) (k : Nat) : Int := if k % 2 = 1 ∧ c < 0 then -1 else 1
theorem Z7 (c : Int) : ∀ k : Nat, c ^ k = sg c k * (c.natAbs : Int) ^ k
 | 0 => by simp [sg]
 | k + 1 => by
  have ih := Z7 c k
  have hc : c = (if c < 0 then -1 else 1) * (c.natAbs : Int) := by split <;> omega
  have hs : sg c (k + 1) = sg c k * (if c < 0 then -1 else 1) := by
   unfold sg
   by_cases h : c < 0
   ·rcases Nat.mod_two_eq_zero_or_one k with h2 | h2
    ·rw [if_pos ⟨by omega, h⟩, if_neg (by omega), if_pos h]; rfl
    ·rw [if_neg (by omega), if_pos ⟨h2, h⟩, if_pos h]; rfl
   ·rw [if_neg (fun h2 => h h2.2), if_neg (fun h2 => h h2.2), if_neg h]; rfl
  rw [Int.pow_succ, Int.pow_succ, ih, hs]
  conv => lhs; rw [hc]
  generalize (if c < 0 then (-1 : Int) else 1) = e at *
  have e3 : ((e * (c.natAbs : Int)).natAbs : Int) = (c.natAbs : Int) := by rw [← hc]
  rw [e3]
  grind
theorem Z8 (c : Int) (k : Nat) : sg c k * sg c k = 1 := by unfold sg; split <;> rfl
theorem Z9 {a b : List Int} (ca : Cn a) : JT a b = iY (aX (wT a b).2 (sg (lead b) (iG a b))) := by
 have cr := (zV (b := b) ca).2
 unfold JT sg
 split
 ·rw [NW]
 ·rw [NV cr]
theorem kB (x : List Int) : (iY x).length ≤ x.length := Nat.le_trans (bO _) (by simp)
theorem JW (x : List Int) : (fJ x).length ≤ x.length := Nat.le_trans (bO _) (by simp)
theorem ad7 {a b : List Int} (hb : 0 < b.length) : (JT a b).length < b.length := by
 have h1 := FQ (a := a) hb
 unfold JT
 split
 ·have h2 := kB (fJ (wT a b).2)
  have h3 := JW (wT a b).2
  omega
 ·have h2 := kB (wT a b).2
  omega
theorem ajB (a b : List Int) : Cn (JT a b) := by unfold JT; split <;> exact Cn.cut _
def exs (b : List Int) : Nat → List Int → List Int → Option (List Int × List Int)
 | 0, q, a => some (q, a)
 | i + 1, q, a => if a.length < b.length + i then exs b i q a else if lead a % lead b = 0 then exs b i (q.set i (lead a / lead b)) (eC a (bJ (oS i (lead a / lead b)) b)) else none
def exF : Option (List Int × List Int) → Option (List Int)
 | some (q, []) => some (aM q)
 | _ => none
def exact (a b : List Int) : Option (List Int) := exF (exs b (iG a b) (List.replicate (iG a b) 0) a)
def exR (o : Option (List Int)) : PV :=
 match o with
 | some q => .dP [Po q, .int .i64 0]
 | none => .dP [Po [], .int .i64 3]
theorem Bd.set {B s n : Nat} {x : List Int} (h : Bd B s n x) {i : Nat} {v : Int} (hv : Pm.sz B v ≤ s) : Bd B s n (x.set i v) := ⟨by simpa using h.len, fun c hc => by
 rcases List.mem_or_eq_of_mem_set hc with h1 | h1
 ·exact h.sz c h1
 ·rw [h1]; exact hv⟩
theorem UR (a b : RP) {s s' N : Nat} (ha : rF a) (hb : rF b) (sa : Bd LL s N (a.map gv)) (sb : Bd LL s' N (b.map gv)) (hB : s + N * (s' + N + 1) + s' + N + N + 10 < 1099511627774) :
  aI env.P 225 [Pg a, Pg b] (if kZ b = [] then .dP [Po [], .int .i64 2] else exR (exact (kZ a) (kZ b))) := by
 have hA : Bd LL s N (kZ a) := sa.cut
 have QT : Bd LL s' N (kZ b) := sb.cut
 have ca : Cn (kZ a) := Cn.cut _
 have cb : Cn (kZ b) := Cn.cut _
 have na := gK a ha
 have nb := gK b hb
 rw [show aM (a.map gv) = kZ a from rfl] at na
 rw [show aM (b.map gv) = kZ b from rfl] at nb
 refine aB (E := env) (fun _ => 0) [(0, Pg a), (1, Pg b)] Tryz.func225 rfl (by kernel_rfl) (by kernel_rfl) (show 2 ≤ 71 by decide) (by simp) ?_
 generalize kZ a = x at *
 generalize kZ b = y at *
 refine W.sr ?_; simp (disch := omega) [gw]; refine W.lx [0, 1] ?_; simp
 refine W.sr ?_
 simp (disch := omega) [gw]
 refine aA na ?_
 simp (disch := omega) [gw]
 refine aA nb ?_
 simp (disch := omega) [gw]
 refine W.lx [0, 1] ?_; simp
 refine W.seq ?_
 refine W.sr ?_; simp (disch := omega) [gw]; refine W.lx [0, 1, 17] ?_; simp
 refine W.cond ⟨_, rfl, fun h => ?_, fun h => ?_⟩
 ·have h : y = [] := by simp at h; exact h
  rw [if_pos h]
  refine W.sr ?_; simp (disch := omega) [gw]; refine W.lx [4, 5] ?_; simp
  refine W.ret ?_
  simp [go]
  rfl
 have hy : y ≠ [] := by simp at h; exact h
 clear h
 rw [if_neg hy]
 have NI : 0 < y.length := List.length_pos_iff.2 hy
 have hNx := hA.len
 have hNy := QT.len
 have hsy := eU QT
 have hly := cH cb NI
 have hL := jS (PB.of QT (by omega) (by omega)) cb
 have hDy := kA y (by omega)
 have hkN : iG x y ≤ N := by unfold iG; omega
 generalize hdd : s' + N + 1 = d at *
 have Z5 : ∀ j, j ≤ N → (N - j) * d ≤ N * d := fun j _ => Nat.mul_le_mul_right _ (by omega)
 have hkk : (if (0 : Int) < (x.length : Int) - (y.length : Int) + 1 then (x.length : Int) - (y.length : Int) + 1 else 0) = (iG x y : Int) := by unfold iG; split <;> omega
 refine W.skip ?_
 refine W.sr ?_
 simp (disch := omega) [gw, hkk]
 refine W.lx [0, 1, 6] ?_; simp
 refine W.row (id := 25) (emap ie (List.replicate (iG x y) 0)) (by simp; exact ⟨rfl, rfl, rfl⟩) (pN _) ?_
 refine W.seq ?_
 refine W.sr ?_; simp (disch := omega) [gw]; refine W.lx [0, 1, 6, 7] ?_; simp
 refine W.block ?_
 obtain ⟨R0, HW⟩ : ∃ R0, R0 = exs y (iG x y) (List.replicate (iG x y) 0) x := ⟨_, rfl⟩
 have hex : exact x y = exF R0 := by rw [HW]; rfl
 rw [hex]
 clear hex
 generalize uV : iG x y = k0 at *
 refine W.bE (fun j σ => ∃ (v6 : Nat) (z r : List Int) (rows : Pm.Rows) (clk : Nat), σ = ⟨fa [(0, Po r), (1, Po y), (6, .own 25 v6 0 k0), (7, .int .i64 ((j : Int) - 1))], rows, clk⟩ ∧
  rows 25 = some ⟨v6, 40, 2, emap ie z⟩ ∧ z.length = k0 ∧ j ≤ k0 ∧ exs y j z r = R0 ∧ Bd LL (s + (N - j) * d) (N + N) z ∧ Bd LL (s + (N - j) * d) (N + N) r ∧ Cn r) k0 ?_ ?_
 ·exact ⟨_, .refl, _, List.replicate k0 0, x, _, _, rfl, by simp, by simp, by omega, HW.symm, ⟨by simp; omega, fun c hc => by rw [(List.mem_replicate.1 hc).2, jD]; omega⟩, hA.mono (by omega) (by omega), ca⟩
 rintro j _ ⟨v6, z, r, rows, clk, rfl, aab, hz, hj, wY, bz, br, cr⟩
 refine W.seq ?_
 refine W.sr ?_; simp (disch := omega) [gw]; refine W.lx [0, 1, 6, 7, 30] ?_; simp
 refine W.cond ⟨_, rfl, fun h => ?_, fun h => ?_⟩
 ·have hj0 : 0 < j := by simp at h; omega
  obtain ⟨i, rfl⟩ : ∃ i, j = i + 1 := ⟨j - 1, by omega⟩
  clear h
  have ei : ((i + 1 : Nat) : Int) - 1 = i := by omega
  rw [ei]
  have hN1 := Z5 (i + 1) (by omega)
  have HG := Z5 i (by omega)
  have hT : s + (N - i) * d = s + (N - (i + 1)) * d + s' + N + 1 := by
   rw [show N - i = (N - (i + 1)) + 1 by omega, Nat.add_mul, Nat.one_mul]; omega
  have hDr := kA r (by have := br.len; omega)
  have hLr := jS (PB.of br (by omega) (by omega)) cr
  have hlr := eU br
  rw [exs] at wY
  refine W.skip ?_
  refine W.fE (fun σ => ∃ (z r : List Int) (rows : Pm.Rows) (clk : Nat), σ = ⟨fa [(0, Po r), (1, Po y), (6, .own 25 v6 0 k0), (7, .int .i64 i)], rows, clk⟩ ∧
   rows 25 = some ⟨v6, 40, 2, emap ie z⟩ ∧ z.length = k0 ∧ exs y i z r = R0 ∧ Bd LL (s + (N - i) * d) (N + N) z ∧ Bd LL (s + (N - i) * d) (N + N) r ∧ Cn r) ?_ ?_
  ·
   refine W.seq ?_
   refine W.sr ?_
   simp (disch := omega) [gw]
   refine aA hDr ?_
   simp (disch := omega) [gw]
   refine aA hDy ?_
   simp (disch := omega) [gw]
   refine W.lx [0, 1, 6, 7, 39] ?_; simp
   by_cases hlen : r.length < y.length + i
   ·rw [if_pos hlen] at wY
    refine W.cond ⟨_, rfl, fun h => ?_, fun h => ?_⟩
    ·refine W.exit ?_; simp only [pX, if_true, if_false, reduceIte, Nat.reduceEqDiff]
     exact ⟨_, aC _ [0, 1, 6, 7], z, r, _, _, rfl, aab, hz, wY, bz.mono (by omega) (by omega), br.mono (by omega) (by omega), cr⟩
    ·exfalso; simp at h; omega
   rw [if_neg hlen] at wY
   refine W.cond ⟨_, rfl, fun h => ?_, fun h => ?_⟩
   ·exfalso; simp at h; omega
   clear h
   have hE := FZ (v := lead r) (c := lead y) (by omega) (by omega) hly
   refine W.skip ?_
   by_cases ZJ : lead r % lead y = 0
   ·rw [if_pos ZJ] at hE wY
    have hts : sz LL (lead r / lead y) ≤ s + (N - (i + 1)) * d := Nat.le_trans (cG fT (Int.natAbs_ediv_le_natAbs _ _)) hlr
    have bs := Bd.oS hts i
    have bm := bs.bJ fT QT
    have b2 : Bd LL (s + (N - i) * d) (N + N) (eC r (bJ (oS i (lead r / lead y)) y)) := (Bd.eC fT (br.mono (s' := s + (N - (i + 1)) * d + s' + N) (n' := N + N) (by omega) (by omega)) (bm.mono (by omega) (by omega))).mono (by omega) (by omega)
    have f4 := DX bs QT (by omega)
    have f5 := DV (PB.of br (by omega) (by omega)) (PB.of bm (by omega) (by omega))
    have cr2 : Cn (eC r (bJ (oS i (lead r / lead y)) y)) := Cn.eC _ _
    have bz2 := Bd.set (i := i) (bz.mono (s' := s + (N - i) * d) (n' := N + N) (by omega) (by omega)) (Nat.le_trans hts (by omega))
    generalize cO : eC r (bJ (oS i (lead r / lead y)) y) = r2 at *
    generalize bJ (oS i (lead r / lead y)) y = pm at *
    generalize lead r / lead y = tt at *
    have Z6 := pR i tt
    have ajA : (oS i tt).length = i + 1 := by simp [oS]
    have lS := bH ajA
    generalize lead r = lr at *
    generalize lead y = ly at *
    refine W.sr ?_
    simp (disch := omega) [gw]
    refine aA hLr ?_
    simp (disch := omega) [gw]
    refine aA hL ?_
    simp (disch := omega) [gw]
    refine aA hE ?_
    simp (disch := omega) [gw]
    refine W.lx [0, 1, 6, 7, 8, 9] ?_; simp
    refine W.seq ?_
    refine W.sr ?_; simp (disch := omega) [gw]; refine W.lx [0, 1, 6, 7, 8, 49] ?_; simp
    refine W.cond ⟨_, rfl, fun h => ?_, fun h => ?_⟩
    ·cases h
    refine W.skip ?_
    refine W.sr ?_
    simp (disch := omega) [gw, aab, hz]
    refine W.lx [0, 1, 6, 7, 8] ?_; simp
    have e9 : ((i : Int) + 1).toNat = i + 1 := by omega
    refine W.sr ?_; simp (disch := omega) [gw, e9]; refine W.lx [0, 1, 6, 7, 8, 10] ?_; simp
    refine W.row (id := 56) (emap ie (List.replicate (i + 1) 0)) (by simp; exact ⟨rfl, rfl, rfl⟩) (pN _) ?_
    refine W.sr ?_
    simp (disch := omega) [gw, Z6]
    refine W.lx [0, 1, 6, 7, 10] ?_; simp
    refine W.freeze 56 (by simp) (fun K hK => ?_)
    simp [lS]
    refine hK _ ?_; clear hK K
    refine W.cB (fun K hK => ?_)
    simp (disch := omega) [gw]
    refine aA f4 ?_
    simp (disch := omega) [gw]
    refine aA f5 ?_
    simp (disch := omega) [gw]
    exact hK _ ⟨_, aC _ [0, 1, 6, 7], z.set i tt, r2, _, _, rfl, by simp, by simp [hz], wY, bz2, b2, cr2⟩
   ·rw [if_neg ZJ] at hE wY
    subst wY
    refine W.sr ?_
    simp (disch := omega) [gw]
    refine aA hLr ?_
    simp (disch := omega) [gw]
    refine aA hL ?_
    simp (disch := omega) [gw]
    refine aA hE ?_
    simp (disch := omega) [gw]
    refine W.lx [0, 1, 6, 7, 8, 9] ?_; simp
    refine W.seq ?_
    refine W.sr ?_; simp (disch := omega) [gw]; refine W.lx [0, 1, 6, 7, 8, 49] ?_; simp
    refine W.cond ⟨_, rfl, fun h => ?_, fun h => ?_⟩
    ·refine W.sr ?_; simp (disch := omega) [gw]; refine W.lx [4, 5] ?_; simp
     refine W.ret ?_
     simp [go, exR, exF]
     rfl
    ·cases h
  rintro _ ⟨z, r, rows, clk, rfl, aab, hz, wY, bz, br, cr⟩
  refine W.cB (fun K hK => ?_); simp (disch := omega) [gw]
  refine hK _ ⟨i, _, aC _ [0, 1, 6, 7], by omega, v6, z, r, _, _, rfl, by simp [aab], hz, by omega, wY, bz, br, cr⟩
 ·have hj0 : j = 0 := by simp at h; omega
  subst hj0
  simp only [exs] at wY
  rw [← wY]
  have hN0 := Z5 0 (by omega)
  have hzn := gE (PB.of bz (by omega) (by omega))
  have hzz := bH hz
  refine W.exit ?_; simp only [pX, if_true, if_false, reduceIte, Nat.reduceEqDiff]
  refine W.seq ?_
  refine W.sr ?_; simp (disch := omega) [gw]; refine W.lx [6, 68] ?_; simp
  cases r with
  | nil =>
   refine W.cond ⟨_, rfl, fun h => ?_, fun h => ?_⟩
   ·exfalso; simp at h
   refine W.skip ?_
   refine W.sr ?_
   simp (disch := omega) [gw, aab, hzz]
   refine aA hzn ?_
   simp (disch := omega) [gw]
   refine W.lx [4, 5] ?_; simp
   refine W.ret ?_
   simp [go, exR, exF]
  | cons c r =>
   refine W.cond ⟨_, rfl, fun h => ?_, fun h => ?_⟩
   ·refine W.sr ?_; simp (disch := omega) [gw]; refine W.lx [4, 5] ?_; simp
    refine W.ret ?_
    simp [go, exR, exF]
    rfl
   ·exfalso; simp at h
theorem AN {d : Nat} {x : List Int} (h : ∀ c ∈ x, (d : Int) ∣ c) : d ∣ bI x := by
 have key : ∀ (l : List Int) (g : Nat), d ∣ g → (∀ c ∈ l, (d : Int) ∣ c) → d ∣ l.foldl (fun g c => Nat.gcd g c.natAbs) g := by
  intro l
  induction l with
  | nil => intro g hg _; exact hg
  | cons c l ih =>
   intro g hg hl
   rw [List.foldl_cons]
   exact ih _ (Nat.dvd_gcd hg (Int.ofNat_dvd_left.1 (hl c (by simp)))) fun v hv => hl v (by simp [hv])
 exact key x 0 (Nat.dvd_zero d) h
theorem yB {x : List Int} {g : Int} (h : ∀ c ∈ x, g ∣ c) : (x.map (oV g)).map (· * g) = x := by
 rw [List.map_map]
 refine (List.map_congr_left fun v hv => ?_).trans (List.map_id _)
 have h1 : v % g = 0 := Int.emod_eq_zero_of_dvd (h v hv)
 simp only [Function.comp_apply, oV, id_eq]
 rw [if_pos h1]
 exact Int.ediv_mul_cancel (h v hv)
theorem vD {x y : List Int} {g : Int} (hg : g ≠ 0) (h : y.map (· * g) = x) (e : bI x = g.natAbs) : bI y = 1 := by
 have := jU g y
 rw [h, e] at this
 exact Nat.eq_of_mul_eq_mul_right (show 0 < g.natAbs by omega) (by omega)
theorem dE (t : Int) (g : Int) (x : List Int) : V t (x.map (· * g)) = V t x * g := by
 have := fN (t := t) g id x
 simp only [id_eq, List.map_id_fun] at this
 exact this
theorem aac {x y : List Int} (cx : Cn x) (cy : Cn y) (hx : x ≠ []) (hy : y ≠ []) : bI (bJ x y) = bI x * bI y := by
 have gx := bW cx hx
 have gy := bW cy hy
 have hp : bI (bJ x y) ≠ 0 := bW (Cn.bJ _ _) fun h => by
  have := iT cx cy (List.length_pos_iff.2 hx) (List.length_pos_iff.2 hy)
  rw [h] at this
  have h1 := List.length_pos_iff.2 hx
  have h2 := List.length_pos_iff.2 hy
  simp only [List.length_nil] at this
  omega
 obtain ⟨x', CX⟩ : ∃ x' : List Int, x'.map (· * (bI x : Int)) = x := ⟨_, yB (gF x)⟩
 obtain ⟨y', B3⟩ : ∃ y' : List Int, y'.map (· * (bI y : Int)) = y := ⟨_, yB (gF y)⟩
 have px := vD (by omega) CX (by omega)
 have py := vD (by omega) B3 (by omega)
 have e : bJ x y = (bJ x' y').map (· * ((bI x : Int) * bI y)) := by
  rw [← qP (Cn.bJ _ _) (Int.mul_ne_zero (by omega) (by omega))]
  refine Cn.ext (Cn.bJ _ _) (Cn.aX _ _) fun t => ?_
  have h1 := dE t (bI x) x'
  have h2 := dE t (bI y) y'
  rw [CX] at h1
  rw [B3] at h2
  rw [cR, bV, cR, h1, h2]
  grind
 rw [e, jU] at hp
 rw [e, jU, Int.natAbs_mul]
 have hd : 0 < bI (bJ x' y') := Nat.pos_of_mul_pos_right (Nat.pos_of_ne_zero hp)
 have hD := QL _ (bI (bJ x' y')) x' y' (Nat.le_refl _) hd (Dv.of (gF _)) (fun d _ hy => Nat.dvd_one.1 (py ▸ AN hy.mem))
 have h1 : bI (bJ x' y') = 1 := Nat.dvd_one.1 (px ▸ AN hD.mem)
 rw [h1, Nat.one_mul]
 simp
def jV (x : List Int) : Int := if lead x < 0 then -(bI x : Int) else bI x
def pS (x : List Int) : List Int := aM (x.map (oV (jV x)))
theorem mC (x : List Int) : (jV x).natAbs = bI x := by unfold jV; split <;> omega
theorem F0 (x : List Int) : ∀ c ∈ x, jV x ∣ c := fun c hc => by
 have := gF x c hc
 unfold jV; split
 ·exact Int.neg_dvd.2 this
 ·exact this
theorem F1 {x : List Int} (cx : Cn x) (hx : x ≠ []) : (pS x).map (· * jV x) = x := by
 have gx := bW cx hx
 have h0 := mC x
 rw [← qP (show Cn (pS x) from Cn.cut _) (show jV x ≠ 0 by omega)]
 refine Cn.ext (Cn.aX _ _) cx fun t => ?_
 rw [bV, pS, cF, ← dE, yB (F0 x)]
theorem US {x : List Int} (cx : Cn x) (hx : x ≠ []) : aX (pS x) (jV x) = x := by
 have gx := bW cx hx
 have h0 := mC x
 rw [qP (show Cn (pS x) from Cn.cut _) (show jV x ≠ 0 by omega)]
 exact F1 cx hx
theorem ad8 {x : List Int} (cx : Cn x) (hx : x ≠ []) : bI (pS x) = 1 := by
 have gx := bW cx hx
 have h0 := mC x
 exact vD (by omega) (F1 cx hx) h0.symm
theorem aad {x : List Int} (cx : Cn x) (hx : x ≠ []) : 0 < lead (pS x) := by
 have gx := bW cx hx
 have h := F1 cx hx
 have hl : (pS x).length = x.length := by rw [← congrArg List.length h]; simp
 have nN := List.length_pos_iff.2 hx
 have h1 : lead x = lead (pS x) * jV x := by
  rw [lead, lead, hl, ← iH, h]
 have sZ := cH (x := pS x) (Cn.cut _) (by omega)
 have hg : (0 : Int) < bI x := by omega
 unfold jV at h1
 rcases Int.lt_trichotomy (lead (pS x)) 0 with h2 | h2 | h2
 ·exfalso
  split at h1
  ·rename_i h3
   have := Int.mul_pos (show (0 : Int) < -lead (pS x) by omega) hg
   rw [Int.mul_neg, ← Int.neg_mul] at h1
   omega
  ·rename_i h3
   have := Int.mul_pos (show (0 : Int) < -lead (pS x) by omega) hg
   rw [Int.neg_mul] at this
   omega
 ·exact absurd h2 sZ
 ·exact h2
theorem rR (a : RP) {s n : Nat} (ha : rF a) (sa : Bd LL s n (a.map gv)) (hs : s < 1099511627774) (hn : n < 1099511627774) :
  aI env.P 157 [Pg a] (.dP [I (jV (kZ a)), Po (pS (kZ a))]) := by
 have hA : Bd LL s n (kZ a) := sa.cut
 have ca : Cn (kZ a) := Cn.cut _
 have na := gK a ha
 rw [show aM (a.map gv) = kZ a from rfl] at na
 refine aB (E := env) (fun _ => 0) [(0, Pg a)] Tryz.func157 rfl (by kernel_rfl) (by kernel_rfl) (show 1 ≤ 23 by decide) (by simp) ?_
 generalize kZ a = x at *
 refine W.sr ?_; simp (disch := omega) [gw]; refine W.lx [0, 2] ?_; simp
 refine W.sr ?_
 simp (disch := omega) [gw]
 refine aA na ?_
 simp (disch := omega) [gw]
 refine W.lx [0, 2] ?_; simp
 refine W.seq ?_
 refine W.sr ?_; simp (disch := omega) [gw]; refine W.lx [0, 2, 9] ?_; simp
 refine W.cond ⟨_, rfl, fun h => ?_, fun h => ?_⟩
 ·have h : x = [] := by simp at h; exact h
  subst h
  rw [show jV ([] : List Int) = 0 by decide, show pS ([] : List Int) = [] from rfl]
  refine W.sr ?_; simp (disch := omega) [gw]; refine W.lx [2, 3] ?_; simp
  refine W.ret ?_
  simp [go]
  exact ⟨rfl, rfl⟩
 have hx : x ≠ [] := by simp at h; exact h
 clear h
 have nN := List.length_pos_iff.2 hx
 have gx := bW ca hx
 have WM := mC x
 have hC := tU x (PD.of hA hs hn)
 have hL := jS (PB.of hA (by omega) (by omega)) ca
 have hgs := QU (s := s) hA.sz ca hx
 have G8 : sz LL (jV x) ≤ s := by
  unfold jV; split
  ·rw [nZ]; exact hgs
  ·exact hgs
 have hO := JQ x (jV x) (PD.of hA hs hn) (by omega) (by omega)
 rw [show aM (x.map (oV (jV x))) = pS x from rfl] at hO
 have hN := ago (x := (bI x : Int)) (by show sz LL _ < _; omega)
 refine W.skip ?_
 refine W.sr ?_
 simp (disch := omega) [gw]
 refine aA hC ?_
 simp (disch := omega) [gw]
 refine W.lx [0, 2, 4] ?_; simp
 refine W.fI (fun σ => ∃ (rows : Pm.Rows) (clk : Nat), σ = ⟨fa [(0, Po x), (2, .ptr 2 0 0 0), (4, .ptr 4 1 0 0)], rows, clk⟩ ∧ rows 2 = some ⟨0, 40, 2, [[.bool false, .nil]]⟩ ∧ rows 4 = some ⟨1, 40, 2, [ie (jV x)]⟩) ?_ ?_
 ·refine W.gX (fun σ => ∃ (rows : Pm.Rows) (clk : Nat), σ = ⟨fa [(0, Po x), (2, .ptr 2 0 0 0), (4, .ptr 4 1 0 0), (16, .bool (decide (lead x < 0)))], rows, clk⟩ ∧ rows 2 = some ⟨0, 40, 2, [[.bool false, .nil]]⟩ ∧ rows 4 = some ⟨1, 40, 2, [ie (bI x)]⟩) (fun K hK => ?_) ?_
  ·simp (disch := omega) [gw]
   refine aA hL ?_
   simp (disch := omega) [gw]
   refine hK _ _ (aC _ [0, 2, 4, 16]) ⟨_, _, rfl, ?_, ?_⟩ <;> simp [ie]
  rintro _ ⟨rows, clk, rfl, cO, iZ⟩
  refine W.YO (lead x < 0) rfl (fun h => ?_) (fun h => ?_)
  ·rw [jV, if_pos h]
   refine W.cB (fun K hK => ?_)
   simp (disch := omega) [gw, iZ]
   refine aA hN ?_
   simp (disch := omega) [gw, iZ]
   exact hK _ ⟨_, aC _ [0, 2, 4], _, _, rfl, by simp [cO], by simp⟩
  ·rw [jV, if_neg h]
   refine W.skip ?_
   exact ⟨_, aC _ [0, 2, 4], _, _, rfl, cO, iZ⟩
 rintro _ ⟨rows, clk, rfl, cO, iZ⟩
 generalize jV x = c at *
 generalize pS x = p at *
 refine W.sd ?_
 simp (disch := omega) [gw, iZ]
 refine aA hO ?_
 simp (disch := omega) [gw, cO, iZ]
 refine W.lx [2, 3] ?_; simp
 refine W.ret ?_
 simp [go]
abbrev qd (x : List Int) (D : Int) : List Rat := x.map fun v => cV v D
theorem eA {v D : Int} (h : D ≠ 0) : cV v D = (v : Rat) / (D : Rat) := by rw [cV, if_neg h, Rat.divInt_eq_div]
theorem fG {D : Int} (h : D ≠ 0) : (D : Rat) ≠ 0 := fun h2 => h (by exact_mod_cast h2)
theorem tV {D : Int} (h : D ≠ 0) : cV 0 D = 0 := by rw [eA h]; simp [Rat.div_def]
theorem w5 {v D : Int} (h : D ≠ 0) : cV v D = 0 ↔ v = 0 := by
 constructor
 ·intro h2
  rw [eA h] at h2
  have h3 := fG h
  have : (v : Rat) = 0 := by
   have h4 : (v : Rat) / (D : Rat) * D = 0 := by rw [h2]; grind
   rw [Rat.div_mul_cancel h3] at h4
   exact h4
  exact_mod_cast this
 ·rintro rfl; exact tV h
theorem QV {v D l : Int} (h : D ≠ 0) (hl : l ≠ 0) : cV (v * l) (D * l) = cV v D := by
 rw [eA h, eA (Int.mul_ne_zero h hl), Rat.intCast_mul, Rat.intCast_mul]
 have h1 := fG h
 have h2 := fG hl
 grind
theorem ad9 {v w D : Int} (h : D ≠ 0) : cV v D + cV w D = cV (v + w) D := by
 rw [eA h, eA h, eA h, Rat.intCast_add]
 have h1 := fG h
 grind
theorem QW {v D : Int} (h : D ≠ 0) : cV v D * (-1) = cV (-v) D := by
 rw [eA h, eA h, Rat.intCast_neg]
 have h1 := fG h
 grind
theorem aae {v w D : Int} (h : D ≠ 0) : (w : Rat) * cV v D = cV (w * v) D := by
 rw [eA h, eA h, Rat.intCast_mul]
 have h1 := fG h
 grind
theorem aea {v D l : Int} (h : D ≠ 0) (hl : l ≠ 0) : cV v D / (l : Rat) = cV v (D * l) := by
 rw [eA h, eA (Int.mul_ne_zero h hl), Rat.intCast_mul]
 have h1 := fG h
 have h2 := fG hl
 grind
theorem tW {D : Int} (h : D ≠ 0) : ∀ x : List Int, lU (qd x D) = qd (aM x) D
 | [] => rfl
 | a :: x => by
  have ih := tW h x
  simp only [qd, List.map_cons] at ih ⊢
  rw [lU, ih, aM]
  by_cases h1 : aM x = [] ∧ a = 0
  ·simp [h1, tV h]
  ·rw [if_neg h1, if_neg (by simpa [w5 h] using h1)]; simp
theorem F5 {D : Int} (h : D ≠ 0) (x : List Int) (k : Nat) : nth (qd x D) k = cV (nth x k) D := xZ (f := fun v => cV v D) (tV h) x k
theorem aeb {D : Int} (h : D ≠ 0) (x y : List Int) : Z2 (qd x D) (qd y D) = qd (gC x y) D := by
 rw [Z2, gC, ← tW h]
 congr 1
 simp only [qd, List.length_map, List.map_map]
 congr 1
 funext k
 simp only [Function.comp_apply]
 rw [show nth (List.map (fun v => cV v D) x) k = _ from F5 h x k, show nth (List.map (fun v => cV v D) y) k = _ from F5 h y k, ad9 h]
theorem aec {D : Int} (h : D ≠ 0) (x : List Int) : jF (qd x D) (-1) = qd (fJ x) D := by
 rw [jF, fJ, ← tW h]
 congr 1
 simp only [qd, List.map_map]
 congr 1
 funext k
 simp only [Function.comp_apply]
 exact QW h
theorem UT {D : Int} (h : D ≠ 0) (y : List Int) (v : Int) : jF (qs y) (cV v D) = qd (aX y v) D := by
 rw [jF, aX, ← tW h]
 congr 1
 simp only [qd, qs, List.map_map]
 congr 1
 funext k
 simp only [Function.comp_apply]
 exact aae h
theorem NY {D l : Int} (h : D ≠ 0) (hl : l ≠ 0) (x : List Int) : qd (x.map (· * l)) (D * l) = qd x D := by
 simp only [qd, List.map_map]
 congr 1
 funext k
 simp only [Function.comp_apply]
 exact QV h hl
theorem F6 (x : List Int) : qd x 1 = qs x := by
 simp only [qd, qs, kR]
theorem sC {v D : Int} {k : Nat} (h : D ≠ 0) (hv : sz 2 v ≤ k) (hD : sz 2 D ≤ k) : ZR k (cV v D) := by
 refine ⟨Nat.le_trans (cG (by decide) ?_) hv, Nat.le_trans (cG (by decide) ?_) hD⟩
 ·rw [n7 _ _ h]
  refine Nat.le_trans (Int.natAbs_ediv_le_natAbs _ _) ?_
  split <;> simp
 ·rw [n8 _ _ h]
  refine Nat.le_trans (Int.natAbs_ediv_le_natAbs _ _) ?_
  split <;> simp
theorem NZ {x : List Int} {D : Int} {k n : Nat} (h : D ≠ 0) (hx : Bd 2 k n x) (hD : sz 2 D ≤ k) (hk : k ≤ YY) (hn : n < 1099511627776) : UN (qd x D) := ⟨fun q hq => by
 simp only [List.mem_map] at hq
 obtain ⟨v, hv, rfl⟩ := hq
 exact sC h (Nat.le_trans (hx.sz v hv) hk) (Nat.le_trans hD hk), by have := hx.len; simp; omega⟩
structure DS where
 Q : List Int
 r : List Int
 D : Int
def dst (y : List Int) (σ : DS) : DS := ⟨(σ.Q.map (· * lead y)).set (σ.r.length - y.length) (lead σ.r), uT y (lead y) (lead σ.r) (σ.r.length - y.length) σ.r, σ.D * lead y⟩
def UU (y : List Int) : Nat → DS → DS
 | 0, σ => σ
 | n + 1, σ => if σ.r.length < y.length then σ else UU y n (dst y σ)
def dmd (x y : List Int) : DS := UU y (x.length + 1) ⟨List.replicate (iG x y) 0, x, 1⟩
theorem F7 {y : List Int} {σ : DS} (hy : 0 < y.length) (h : y.length ≤ σ.r.length) : (dst y σ).r.length < σ.r.length := by
 have h1 := x7 (b := y) (r := σ.r) (i := σ.r.length - y.length) hy (by omega)
 rw [show tJ y σ.r (σ.r.length - y.length) = lead σ.r from by rw [tJ, if_pos (by omega)]] at h1
 show (uT y (lead y) (lead σ.r) (σ.r.length - y.length) σ.r).length < _
 omega
theorem aed {y : List Int} {σ : DS} (h : σ.r.length < y.length) : ∀ n, UU y n σ = σ
 | 0 => rfl
 | n + 1 => by rw [UU, if_pos h]
structure sE (x y : List Int) (σ : DS) : Prop where
 v : ∀ t, σ.D * V t x = V t σ.Q * V t y + V t σ.r
 z : ∀ j, j + y.length ≤ σ.r.length → nth σ.Q j = 0
 c : Cn σ.r
 d : σ.D ≠ 0
 q : σ.r.length + 1 ≤ σ.Q.length + y.length ∨ σ.r.length < y.length
theorem sE.step {x y : List Int} {σ : DS} (cy : Cn y) (hy : 0 < y.length) (h : y.length ≤ σ.r.length) (hI : sE x y σ) : sE x y (dst y σ) := by
 have hl := cH cy hy
 have dI := F7 hy h
 have hq := hI.q.resolve_right (by omega)
 have hk : σ.r.length - y.length < (σ.Q.map (· * lead y)).length := by simp; omega
 have h1 := x7 (b := y) (r := σ.r) (i := σ.r.length - y.length) hy (by omega)
 rw [show tJ y σ.r (σ.r.length - y.length) = lead σ.r from by rw [tJ, if_pos (by omega)]] at h1
 refine ⟨fun t => ?_, fun j hj => ?_, Cn.eC _ _, Int.mul_ne_zero hI.d hl, ?_⟩
 ·have h2 := hI.v t
  have h3 := DF (b := t) (x := lead σ.r) hk
  have h4 : nth (σ.Q.map (· * lead y)) (σ.r.length - y.length) = 0 := by
   rw [iH, hI.z _ (by omega)]; simp
  show σ.D * lead y * V t x = V t ((σ.Q.map (· * lead y)).set (σ.r.length - y.length) (lead σ.r)) * V t y + V t (uT y (lead y) (lead σ.r) (σ.r.length - y.length) σ.r)
  rw [h3, h4, dE, uT, gS, cR, mA, bV]
  have h5 : σ.D * lead y * V t x = lead y * (σ.D * V t x) := by grind
  rw [h5, h2]; grind
 ·have hj : j + y.length ≤ (uT y (lead y) (lead σ.r) (σ.r.length - y.length) σ.r).length := hj
  show nth ((σ.Q.map (· * lead y)).set (σ.r.length - y.length) (lead σ.r)) j = 0
  rw [fF (by omega), iH, hI.z _ (by omega)]; simp
 ·left
  have : (dst y σ).Q.length = σ.Q.length := by simp [dst]
  omega
theorem sE.UU {x y : List Int} (cy : Cn y) (hy : 0 < y.length) : ∀ (n : Nat) (σ : DS), σ.r.length < n → sE x y σ → sE x y (UU y n σ) ∧ (Proofs.YtbbjgncblhfegaaGreat.UU y n σ).r.length < y.length
 | 0, σ, h, _ => by omega
 | n + 1, σ, h, hI => by
  rw [Proofs.YtbbjgncblhfegaaGreat.UU]
  split
  ·rename_i h1; exact ⟨hI, h1⟩
  ·rename_i h1
   exact sE.UU cy hy n _ (by have := F7 (σ := σ) hy (by omega); omega) (hI.step cy hy (by omega))
theorem sE.start {x y : List Int} (cx : Cn x) : sE x y ⟨List.replicate (iG x y) 0, x, 1⟩ := by
 refine ⟨fun t => ?_, fun j hj => ?_, cx, show (1 : Int) ≠ 0 by decide, ?_⟩
 ·simp [oN]
 ·rcases Nat.lt_or_ge j (iG x y) with h | h
  ·rw [cE (by simpa using h)]; simp
  ·rw [fZ (by simpa using h)]; rfl
 ·simp only [iG, List.length_replicate]; omega
theorem aee {x y : List Int} (cx : Cn x) (cy : Cn y) (hy : 0 < y.length) : sE x y (dmd x y) ∧ (dmd x y).r.length < y.length := sE.UU cy hy _ _ (Nat.lt_succ_self _) (sE.start cx)
@[simp] theorem apf {l : List Rat} {i : Nat} {q : Rat} : iO (emap re l) i 0 [aJ aF (aT DD q.num.natAbs), .bool (decide (q.num < 0)), aJ aF (aT DD q.den), .bool false] = emap re (l.set i q) := x8 (n := 4) (fun _ => rfl)
theorem AO (x : List Int) : emap re (qs x) = emap ri x := by simp only [emap, qs, List.map_map, Function.comp_def, fP]
theorem aag (a b n : List Rat) (ha : UN a) (hb : UN b) (hn : jF b (-1) = n) (hn2 : UN n) : aI env.P 152 [PP a, PP b] (PP (Z2 a n)) := by
 have h1 := JN b hb
 rw [hn] at h1
 have h2 := Z3 a n ha hn2
 refine aB (E := env) (fun _ => 0) [(0, PP a), (1, PP b)] Tryz.func152 rfl (by kernel_rfl) (by kernel_rfl) (show 2 ≤ 9 by decide) (by simp) ?_
 refine W.sr ?_; simp (disch := omega) [gw]; refine W.lx [0, 1] ?_; simp
 refine W.sr ?_
 simp (disch := omega) [gw]
 refine aA h1 ?_
 simp (disch := omega) [gw]
 refine aA h2 ?_
 simp (disch := omega) [gw]
 refine W.lx [4] ?_; simp
 refine W.ret ?_
 simp [go]
def HH (l : List Rat) : Int := l.foldl (fun d q => (d * q.den).tdiv (Int.gcd d q.den)) 1
def QX (d : Int) (l : List Rat) : Int := l.foldl (fun (g : Int) q => (Int.gcd g ((q.num * d).tdiv q.den) : Int)) 0
theorem aah {l : List Rat} {i : Nat} (h : i < l.length) : HH (l.take (i + 1)) = (HH (l.take i) * (nth l i).den).tdiv (Int.gcd (HH (l.take i)) (nth l i).den) := by
 unfold HH; rw [bA h, List.foldl_append]; rfl
theorem aai {l : List Rat} {d : Int} {i : Nat} (h : i < l.length) : QX d (l.take (i + 1)) = (Int.gcd (QX d (l.take i)) (((nth l i).num * d).tdiv (nth l i).den) : Int) := by
 unfold QX; rw [bA h, List.foldl_append]; rfl
theorem aaj (q : Rat) : RI (q.den : Int) = .ag [aJ aF (aT DD q.den), .bool false] := by
 simp [show ¬ ((q.den : Int) < 0) by omega]
def N4 (l : List Rat) : Rat := if (nth l (l.length - 1)).num < 0 then -(cV (QX (HH l) l) (HH l)) else cV (QX (HH l) l) (HH l)
def qpr (l : List Rat) : List Rat := jF l (1 / N4 l)
theorem pT (l : List Rat) {k : Nat} (hk : k ≤ YY) (hk1 : 1 ≤ k) (hl : ∀ q ∈ l, ZR k q) (L7 : l.length < 1099511627776) (h0 : l ≠ [])
  (hd : ∀ i, sz 2 (HH (l.take i)) ≤ k) (NR : ∀ i, 0 < HH (l.take i)) (hg : ∀ i, sz 2 (QX (HH l) (l.take i)) ≤ k)
  (hc : ZR YY (N4 l)) (vC : N4 l ≠ 0) (uQ : ZR YY (1 / N4 l)) :
  aI env.P 191 [PP l] (.dP [RR (N4 l), PP (qpr l)]) := by
 have hkY : k ≤ 137438953472 := hk
 have wH : 0 < l.length := List.length_pos_iff.2 h0
 refine aB (E := env) (fun _ => 0) [(0, PP l)] Tryz.func191 rfl (by kernel_rfl) (by kernel_rfl) (show 1 ≤ 75 by decide) (by simp) ?_
 refine W.sr ?_; simp (disch := omega) [gw]; refine W.lx [0, 2] ?_; simp
 refine W.seq ?_
 refine W.sr ?_; simp (disch := omega) [gw]; refine W.lx [0, 2, 11] ?_; simp
 refine W.cond ⟨_, rfl, fun h => ?_, fun h => ?_⟩
 ·exfalso; simp at h; exact h0 h
 refine W.skip ?_
 refine W.sr ?_
 simp (disch := omega) [gw]
 refine aA (n6 1 (by decide) (by decide)) ?_
 simp (disch := omega) [gw]
 refine W.lx [0, 2, 4] ?_; simp
 refine W.seq ?_
 refine W.sr ?_; simp (disch := omega) [gw]; refine W.lx [0, 2, 4, 15, 16] ?_; simp
 refine W.block ?_
 refine W.bE (fun n σ => ∃ (i : Nat) (d : Int) (rows : Pm.Rows) (clk : Nat), σ = ⟨fa [(0, PP l), (2, .ptr 2 0 0 0), (4, .ptr 4 1 0 0), (15, .int .i64 l.length), (16, .int .i64 i)], rows, clk⟩ ∧
  rows 2 = some ⟨0, 50, 4, [[.nil, .bool false, .nil, .bool false]]⟩ ∧ rows 4 = some ⟨1, 48, 2, [[aJ aF (aT DD d.natAbs), .bool (decide (d < 0))]]⟩ ∧ n = l.length - i ∧ i ≤ l.length ∧ d = HH (l.take i)) l.length ?_ ?_
 ·exact ⟨_, .refl, 0, 1, _, _, rfl, by simp, by simp, by omega, by omega, by simp [HH]⟩
 rintro n _ ⟨i, d, rows, clk, rfl, cO, iZ, hn, hi, ZJ⟩
 refine W.sr ?_; simp (disch := omega) [gw]; refine W.lx [0, 2, 4, 15, 16, 17] ?_; simp
 refine W.seq ?_
 refine W.cond ⟨_, rfl, fun h => ?_, fun h => ?_⟩
 ·have hi : i < l.length := by simp at h; omega
  have hq := hl _ (bM hi)
  have hdi := hd i
  have hdp := NR i
  have hs := aah hi
  rw [← ZJ] at hs hdi hdp
  have hsn := hd (i + 1)
  have m1 := dS d (nth l i).den (by simp only [Z]; omega) (by have := hq.d; simp only [Z]; omega)
  have m2 := AH d (nth l i).den (by simp only [Y]; omega) (by have := hq.d; simp only [Y]; omega)
  have zm := bT (b := 2) (by decide) hdi hq.d
  have hgp : 0 < Int.gcd d (nth l i).den := Int.gcd_pos_of_ne_zero_left _ (by omega)
  have zg : Y (Int.gcd d (nth l i).den : Int) := AG (y := d) (by simp only [Y]; omega) (by
   have := Int.le_of_dvd hdp (Int.gcd_dvd_left d ((nth l i).den : Int)); omega)
  have m3 := tQ (d * (nth l i).den) (Int.gcd d (nth l i).den) (by omega) (by simp only [Y]; omega) zg
  rw [← hs] at m3
  rw [aaj] at m1 m2
  generalize (Int.gcd d (nth l i).den : Int) = gg at *
  generalize d * ((nth l i).den : Int) = dd at *
  generalize S7 : HH (l.take (i + 1)) = d2 at *
  generalize UW : nth l i = q at *
  refine W.skip ?_
  refine W.seq ?_
  refine W.block ?_
  refine W.sr ?_; simp (disch := omega) [gw, UW]; refine W.lx [0, 2, 4, 5, 15, 16] ?_; simp
  refine W.M9 (fun K hK => ?_)
  simp (disch := omega) [gw, iZ, UW]
  refine aA m1 ?_
  simp (disch := omega) [gw, iZ, UW]
  refine aA m2 ?_
  simp (disch := omega) [gw, iZ, UW]
  refine aA m3 ?_
  simp (disch := omega) [gw, iZ, UW]
  refine cA (by refine ⟨?_, ?_⟩ <;> kernel_rfl) ?_
  simp (disch := omega) [gw]
  refine W.lw [0, 2, 4, 15, 16] hK ?_; clear hK K; simp
  refine W.cB (fun K hK => ?_); simp (disch := omega) [gw]
  refine hK _ ⟨l.length - (i + 1), _, aC _ [0, 2, 4, 15, 16], by omega, i + 1, d2, _, _, rfl, by simp [cO], by simp, by omega, by omega, S7.symm⟩
 have hi : i = l.length := by simp at h; omega
 subst hi
 rw [List.take_length] at ZJ
 have S8 := hd l.length
 have hdp := NR l.length
 rw [List.take_length, ← ZJ] at S8 hdp
 rw [← ZJ] at hg
 have hqc : N4 l = if (nth l (l.length - 1)).num < 0 then -(cV (QX d l) d) else cV (QX d l) d := by rw [ZJ]; rfl
 refine W.exit ?_; simp only [pX, if_true, if_false, reduceIte, Nat.reduceEqDiff]
 refine W.sr ?_; simp (disch := omega) [gw]; refine W.lx [0, 2, 4, 6] ?_; simp
 refine W.row (id := 6) (els := [[.nil, .bool false]]) [[aJ aF (aT DD 0), .bool false]] (by simp; first | exact ⟨rfl, rfl, rfl⟩ | exact ⟨rfl, rfl, rfl, rfl⟩) ⟨⟨.inr ⟨rfl, rfl⟩, .inl rfl, trivial⟩, trivial⟩ ?_
 refine W.seq ?_
 refine W.sr ?_; simp (disch := omega) [gw]; refine W.lx [0, 2, 4, 6, 36, 37] ?_; simp
 refine W.block ?_
 clear ZJ
 refine W.bE (fun n σ => ∃ (i v6 : Nat) (g : Int) (rows : Pm.Rows) (clk : Nat), σ = ⟨fa [(0, PP l), (2, .ptr 2 0 0 0), (4, .ptr 4 1 0 0), (6, .ptr 6 v6 0 0), (36, .int .i64 l.length), (37, .int .i64 i)], rows, clk⟩ ∧
  rows 2 = some ⟨0, 50, 4, [[.nil, .bool false, .nil, .bool false]]⟩ ∧ rows 4 = some ⟨1, 48, 2, [[aJ aF (aT DD d.natAbs), .bool (decide (d < 0))]]⟩ ∧
  rows 6 = some ⟨v6, 48, 2, [[aJ aF (aT DD g.natAbs), .bool (decide (g < 0))]]⟩ ∧ n = l.length - i ∧ i ≤ l.length ∧ g = QX d (l.take i)) l.length ?_ ?_
 ·exact ⟨_, .refl, 0, _, 0, _, _, rfl, by simp [cO], by simp [iZ], by simp, by omega, by omega, by simp [QX]⟩
 clear cO iZ rows clk
 rintro n _ ⟨i, v6, g, rows, clk, rfl, cO, iZ, tX, hn, hi, hgv⟩
 refine W.sr ?_; simp (disch := omega) [gw]; refine W.lx [0, 2, 4, 6, 36, 37, 38] ?_; simp
 refine W.seq ?_
 refine W.cond ⟨_, rfl, fun h => ?_, fun h => ?_⟩
 ·have hi : i < l.length := by simp at h; omega
  have hq := hl _ (bM hi)
  have hgi := hg i
  have hs := aai (d := d) hi
  rw [← hgv] at hs hgi
  have m1 := dS (nth l i).num d (by have := hq.n; simp only [Z]; omega) (by simp only [Z]; omega)
  have zm := bT (b := 2) (by decide) hq.n S8
  have m2 := tQ ((nth l i).num * d) (nth l i).den (by have := (nth l i).den_nz; omega) (by simp only [Y]; omega) (by have := hq.d; simp only [Y]; omega)
  have zq : Y (((nth l i).num * d).tdiv (nth l i).den) := AG (y := (nth l i).num * d) (by simp only [Y]; omega) (by rw [Int.natAbs_tdiv]; exact Nat.div_le_self _ _)
  have m3 := AH g (((nth l i).num * d).tdiv (nth l i).den) (by simp only [Y]; omega) zq
  rw [← hs] at m3
  rw [aaj] at m2
  generalize ((nth l i).num * d).tdiv (nth l i).den = nq at *
  generalize (nth l i).num * d = nd at *
  generalize o7 : QX d (l.take (i + 1)) = g2 at *
  generalize UW : nth l i = q at *
  refine W.skip ?_
  refine W.seq ?_
  refine W.block ?_
  refine W.sr ?_; simp (disch := omega) [gw, UW]; refine W.lx [0, 2, 4, 6, 7, 36, 37] ?_; simp
  refine W.M9 (fun K hK => ?_)
  simp (disch := omega) [gw, iZ, tX, UW]
  refine aA m1 ?_
  simp (disch := omega) [gw, iZ, tX, UW]
  refine aA m2 ?_
  simp (disch := omega) [gw, iZ, tX, UW]
  refine aA m3 ?_
  simp (disch := omega) [gw, iZ, tX, UW]
  refine cA (by kernel_rfl) ?_
  simp (disch := omega) [gw]
  refine W.lw [0, 2, 4, 6, 36, 37] hK ?_; clear hK K; simp
  refine W.cB (fun K hK => ?_); simp (disch := omega) [gw]
  refine hK _ ⟨l.length - (i + 1), _, aC _ [0, 2, 4, 6, 36, 37], by omega, i + 1, v6, g2, _, _, rfl, by simp [cO], by simp [iZ], by simp, by omega, by omega, o7.symm⟩
 have hi : i = l.length := by simp at h; omega
 subst hi
 rw [List.take_length] at hgv
 have hgl := hg l.length
 rw [List.take_length] at hgl
 rw [← hgv] at hgl hqc
 have hMk := lJ g d (by simp only [Y]; omega) (by simp only [Y]; omega)
 have hNg := JK (cV g d)
 have hQ := AL 1 (N4 l) ⟨by show sz 2 1 ≤ YY; exact Nat.le_trans (cT (k := 1) (by decide) (by decide)) (by decide), by show sz 2 1 ≤ YY; exact Nat.le_trans (cT (k := 1) (by decide) (by decide)) (by decide)⟩ hc vC
 have hOf := n9 1 1 (by decide) (by decide)
 rw [kR, show (((1 : Int)) : Rat) = 1 by simp] at hOf
 have hSc := oA l (1 / N4 l) ⟨fun q hq => ⟨Nat.le_trans (hl q hq).n hk, Nat.le_trans (hl q hq).d hk⟩, L7⟩ uQ
 rw [show jF l (1 / N4 l) = qpr l from rfl] at hSc
 have e1 : ((l.length : Int) - 1).toNat = l.length - 1 := by omega
 generalize qpr l = pr at *
 generalize gW : (1 : Rat) = one at *
 generalize one / N4 l = ic at *
 generalize N4 l = cc at *
 generalize hqm : cV g d = c0 at *
 generalize UW : nth l (l.length - 1) = q at *
 refine W.exit ?_; simp only [pX, if_true, if_false, reduceIte, Nat.reduceEqDiff]
 refine W.sr ?_
 simp (disch := omega) [gw, iZ, tX]
 refine aA hMk ?_
 simp (disch := omega) [gw]
 refine W.lx [0, 2, 8] ?_; simp
 refine W.fI (fun σ => ∃ (v8 : Nat) (rows : Pm.Rows) (clk : Nat), σ = ⟨fa [(0, PP l), (2, .ptr 2 0 0 0), (8, .ptr 8 v8 0 0)], rows, clk⟩ ∧ rows 2 = some ⟨0, 50, 4, [[.nil, .bool false, .nil, .bool false]]⟩ ∧ rows 8 = some ⟨v8, 50, 4, [re cc]⟩) ?_ ?_
 ·refine W.sr ?_; simp (disch := omega) [gw, e1, UW]; refine W.lx [0, 2, 8, 66] ?_; simp
  refine W.YO (q.num < 0) rfl (fun h => ?_) (fun h => ?_)
  ·rw [if_pos h] at hqc
   rw [← hqc] at hNg
   refine W.cB (fun K hK => ?_)
   simp (disch := omega) [gw]
   refine aA hNg ?_
   simp (disch := omega) [gw]
   exact hK _ ⟨_, aC _ [0, 2, 8], _, _, _, rfl, by simp [cO], by simp⟩
  ·rw [if_neg h] at hqc
   refine W.skip ?_
   exact ⟨_, aC _ [0, 2, 8], _, _, _, rfl, by simp [cO], by simp [hqc]⟩
 clear cO iZ tX rows clk
 rintro _ ⟨v8, rows, clk, rfl, cO, xS⟩
 refine W.sd ?_
 simp (disch := omega) [gw, xS]
 refine aA hOf ?_
 simp (disch := omega) [gw, xS]
 refine aA hQ ?_
 simp (disch := omega) [gw, xS]
 refine aA hSc ?_
 simp (disch := omega) [gw, cO, xS]
 refine W.lx [2, 3] ?_; simp
 refine W.ret ?_
 simp [go]
theorem aef (x : List Int) (hx : ∀ c ∈ x, Z c) (hl : x.length < 1099511627776) : aI env.P 22 [PI x] (Po x) := by
 refine aB (E := env) (fun _ => 0) [(0, PI x)] Tryz.func22 rfl (by kernel_rfl) (by kernel_rfl) (show 1 ≤ 21 by decide) (by simp) ?_
 refine W.sr ?_; simp (disch := omega) [gw]; refine W.lx [0] ?_; simp
 refine W.sr ?_; simp (disch := omega) [gw]; refine W.lx [0, 3] ?_; simp
 refine W.nil 3 3 40 2 (by simp) (by decide) (fun K hK => ?_)
 refine W.lw [0, 3] hK ?_; clear hK K; simp
 refine W.seq ?_
 refine W.sr ?_; simp (disch := omega) [gw]; refine W.lx [0, 3, 6, 7] ?_; simp
 refine W.block ?_
 refine W.bE (fun k σ => ∃ (i ver : Nat) (rows : Pm.Rows) (clk : Nat), σ = ⟨fa [(0, PI x), (3, .own 3 ver 0 i), (6, .int .i64 x.length), (7, .int .i64 i)], rows, clk⟩ ∧ rows 3 = some ⟨ver, 40, 2, emap ie (x.take i)⟩ ∧ k = x.length - i ∧ i ≤ x.length) x.length ?_ ?_
 ·exact ⟨_, .refl, 0, _, _, _, rfl, by simp [emap], by omega, by omega⟩
 rintro k _ ⟨i, ver, rows, clk, rfl, hr, hk, hi⟩
 refine W.sr ?_; simp (disch := omega) [gw]; refine W.lx [0, 3, 6, 7, 8] ?_; simp
 refine W.seq ?_
 refine W.cond ⟨_, rfl, fun h0 => ?_, fun h0 => ?_⟩
 ·have h0 : i < x.length := by simp at h0; omega
  have eY : (x.take i).length = i := by simp; omega
  have hT := FY (nth x i) (hx _ (bM h0))
  refine W.skip ?_
  refine W.seq ?_
  refine W.block ?_
  refine W.sr ?_; simp (disch := omega) [gw]; refine W.lx [0, 3, 4, 6, 7] ?_; simp
  refine W.cB (fun K hK => ?_)
  simp (disch := omega) [gw]
  refine aA hT ?_
  simp (disch := omega) [gw, hr, eY]
  refine W.lw [0, 3, 6, 7] hK ?_; clear hK K; simp
  refine W.cB (fun K hK => ?_); simp (disch := omega) [gw]
  refine hK _ ⟨x.length - (i + 1), _, aC _ [0, 3, 6, 7], by omega, i + 1, _, _, _, rfl, ?_, by omega, by omega⟩
  rw [bA h0]
  simp
 ·have eQ : i = x.length := by simp at h0; omega
  subst eQ
  rw [List.take_length] at hr
  refine W.exit ?_; simp only [pX, if_true, if_false, reduceIte, Nat.reduceEqDiff]
  refine W.sr ?_
  simp (disch := omega) [gw, hr]
  refine W.lx [2] ?_; simp
  refine W.ret ?_
  simp [go, hr]
theorem F8 (x : List Int) : HH (qs x) = 1 := by
 have key : ∀ l : List Int, (qs l).foldl (fun (d : Int) q => (d * q.den).tdiv (Int.gcd d q.den)) 1 = 1 := by
  intro l
  induction l with
  | nil => rfl
  | cons a l ih =>
   simp only [qs, List.map_cons, List.foldl_cons, Rat.den_intCast] at ih ⊢
   exact ih
 exact key x
theorem aak (x : List Int) : QX 1 (qs x) = bI x := by
 have key : ∀ (l : List Int) (g : Nat), (qs l).foldl (fun (g : Int) q => (Int.gcd g ((q.num * 1).tdiv q.den) : Int)) g = (l.foldl (fun g c => Nat.gcd g c.natAbs) g : Nat) := by
  intro l
  induction l with
  | nil => intro g; rfl
  | cons a l ih =>
   intro g
   have := ih (Nat.gcd g a.natAbs)
   simp only [qs, List.map_cons, List.foldl_cons, Rat.den_intCast, Rat.num_intCast] at this ⊢
   rw [← this]
   congr 1
   simp [Int.gcd]
 exact key x 0
theorem F9 (x : List Int) (i : Nat) : (qs x).take i = qs (x.take i) := by simp [qs, List.map_take]
theorem AP {x : List Int} (hx : 0 < x.length) : N4 (qs x) = (jV x : Rat) := by
 have e : (nth (qs x) ((qs x).length - 1)).num = lead x := by rw [Z4]; simp [lead]
 unfold N4 jV
 rw [F8, aak, kR, e]
 split
 ·rw [Rat.intCast_neg]
 ·rfl
theorem ajE {x : List Int} (cx : Cn x) (hx : x ≠ []) : qpr (qs x) = qs (pS x) := by
 have nN := List.length_pos_iff.2 hx
 have h0 := mC x
 have gx := bW cx hx
 have hp : jV x ≠ 0 := by omega
 have hc := fG hp
 rw [qpr, AP nN, jF, pS, ← tS]
 congr 1
 simp only [qs, List.map_map]
 refine List.map_congr_left fun v hv => ?_
 simp only [Function.comp_apply]
 have hd := F0 x v hv
 obtain ⟨w, rfl⟩ := hd
 have : oV (jV x) (jV x * w) = w := by
  unfold oV
  rw [if_pos (Int.mul_emod_right _ _)]
  exact Int.mul_ediv_cancel_left _ hp
 rw [this, Rat.intCast_mul]
 grind
theorem kS {x : List Int} {s : Nat} (hs : ∀ c ∈ x, sz 2 c ≤ s) : sz 2 (bI x : Int) ≤ s := by
 by_cases h : ∃ c ∈ x, c ≠ 0
 ·obtain ⟨c, hc, h0⟩ := h
  refine Nat.le_trans (cG (by decide) ?_) (hs c hc)
  have := Int.le_of_dvd (a := (bI x : Int)) (b := (c.natAbs : Int)) (by omega) (Int.dvd_natAbs.2 (gF x _ hc))
  omega
 ·have h1 : bI x = 0 := by
   have h2 : (0 : Nat) ∣ bI x := AN fun c hc => by
    have : c = 0 := Classical.byContradiction fun h3 => h ⟨c, hc, h3⟩
    rw [this]; exact Int.dvd_refl _
   exact Nat.eq_zero_of_zero_dvd h2
  rw [h1]; show sz 2 0 ≤ s; rw [jD]; omega
theorem AQ (x : List Int) {s n : Nat} (hx : Bd 2 s n x) (cx : Cn x) (rD : 1 ≤ s) (hs : s ≤ YY) (hn : n < 1099511627776) : aI env.P 191 [PI x] (.dP [.ag (ri (jV x)), PI (pS x)]) := by
 have hlx := hx.len
 by_cases h0 : x = []
 ·subst h0
  have hz := nE
  rw [show jV ([] : List Int) = 0 by decide, show pS ([] : List Int) = [] from rfl]
  refine aB (E := env) (fun _ => 0) [(0, PI [])] Tryz.func191 rfl (by kernel_rfl) (by kernel_rfl) (show 1 ≤ 75 by decide) (by simp) ?_
  refine W.sr ?_; simp (disch := omega) [gw]; refine W.lx [0, 2] ?_; simp
  refine W.seq ?_
  refine W.sr ?_; simp (disch := omega) [gw]; refine W.lx [0, 2, 11] ?_; simp
  refine W.cond ⟨_, rfl, fun h => ?_, fun h => ?_⟩
  ·refine W.sr ?_
   simp (disch := omega) [gw]
   refine aA hz ?_
   simp (disch := omega) [gw]
   refine W.lx [2, 3] ?_; simp
   refine W.ret ?_
   simp [go]
   all_goals rfl
  ·simp at h
 ·have nN := List.length_pos_iff.2 h0
  have hp := mC x
  have gx := bW cx h0
  have WM : jV x ≠ 0 := by omega
  have hgs : ∀ i, sz 2 (bI (x.take i) : Int) ≤ s := fun i => kS fun c hc => hx.sz c (List.mem_of_mem_take hc)
  have wY : sz 2 (jV x) ≤ s := by
   have := kS hx.sz
   unfold jV; split
   ·rw [nZ]; exact this
   ·exact this
  have s1 : sz 2 1 ≤ 1 := cT (by decide) (by decide)
  have zc : ZR YY (jV x : Rat) := mR (Nat.le_trans wY hs) (by decide)
  have e1 : (1 : Rat) / (jV x : Rat) = cV 1 (jV x) := by rw [eA WM]; simp
  have := pT (qs x) hs rD (fun q hq => by
   simp only [qs, List.mem_map] at hq
   obtain ⟨c, hc, rfl⟩ := hq
   exact mR (hx.sz c hc) rD) (by simp; omega) (by simpa [qs] using h0)
   (fun i => by rw [F9, F8]; omega) (fun i => by rw [F9, F8]; decide) (fun i => by rw [F8, F9, aak]; exact hgs i)
   (by rw [AP nN]; exact zc) (by rw [AP nN]; exact fG WM) (by rw [AP nN, e1]; exact sC WM (by show sz 2 1 ≤ 137438953472; omega) (Nat.le_trans wY hs))
  rw [AP nN, ajE cx h0, oQ, oQ, RR, fP] at this
  exact this
theorem UX {D a b : Nat} (hD : 0 < D) (ha : a ∣ D) (hb : b ∣ D) : Nat.lcm (D / a) (D / b) = D / Nat.gcd a b := by
 have ha0 : 0 < a := Nat.pos_of_dvd_of_pos ha hD
 have hb0 : 0 < b := Nat.pos_of_dvd_of_pos hb hD
 have hg : 0 < Nat.gcd a b := Nat.gcd_pos_of_pos_left _ ha0
 obtain ⟨a', b', hc, ea, eb⟩ := Nat.exists_coprime a b
 generalize Nat.gcd a b = g at *
 obtain ⟨p, hp⟩ := ha
 obtain ⟨q, hq⟩ := hb
 have h1 : a' * p = b' * q := by
  have : g * (a' * p) = g * (b' * q) := by rw [ea] at hp; rw [eb] at hq; grind
  exact Nat.eq_of_mul_eq_mul_left hg this
 have h2 : a' ∣ q := hc.dvd_of_dvd_mul_left (by rw [← h1]; exact Nat.dvd_mul_right _ _)
 obtain ⟨m, rfl⟩ := h2
 have aun : 0 < a' := by
  rcases Nat.eq_zero_or_pos a' with h | h
  ·rw [h] at ea; omega
  ·exact h
 have h3 : p = b' * m := by
  have : a' * p = a' * (b' * m) := by rw [h1]; grind
  exact Nat.eq_of_mul_eq_mul_left aun this
 subst h3
 have e1 : D / a = b' * m := by rw [hp]; exact Nat.mul_div_cancel_left _ ha0
 have e2 : D / b = a' * m := by rw [hq]; exact Nat.mul_div_cancel_left _ hb0
 have e3 : D / g = a' * b' * m := by
  rw [hp, ea, show a' * g * (b' * m) = g * (a' * b' * m) by grind]
  exact Nat.mul_div_cancel_left _ hg
 rw [e1, e2, e3, Nat.lcm_mul_right, Nat.lcm_comm, Nat.lcm, show a'.gcd b' = 1 from hc, Nat.div_one]
theorem aal (n : Nat) (q : Rat) : ((n : Int) * q.den).tdiv (Int.gcd n q.den) = (Nat.lcm n q.den : Nat) := by
 have : Int.gcd (n : Int) (q.den : Int) = Nat.gcd n q.den := rfl
 rw [this, ← Int.natCast_mul, ← Int.ofNat_tdiv]
 rfl
theorem w6 {v : Int} {D : Nat} (hD : 0 < D) : (cV v D).den = D / Nat.gcd D v.natAbs := by
 have h := n8 v D (by omega)
 have h2 : ¬ (D : Int) < 0 := by omega
 simp only [h2, if_false] at h
 have : Int.gcd v (D : Int) = Nat.gcd D v.natAbs := by rw [Int.gcd, Nat.gcd_comm]; rfl
 rw [this] at h
 exact_mod_cast h
theorem w7 {v : Int} {D : Nat} (hD : 0 < D) : (cV v D).num = v / (Nat.gcd D v.natAbs : Nat) := by
 have h := n7 v D (by omega)
 have h2 : ¬ (D : Int) < 0 := by omega
 simp only [h2, if_false] at h
 have : Int.gcd v (D : Int) = Nat.gcd D v.natAbs := by rw [Int.gcd, Nat.gcd_comm]; rfl
 rw [this] at h
 exact h
def V8 (D : Nat) (x : List Int) : Nat := Nat.gcd D (bI x)
theorem GB {D : Nat} (hD : 0 < D) (x : List Int) : HH (qd x D) = (D / V8 D x : Nat) := by
 have key : ∀ (l : List Int) (g : Nat), g ∣ D → (qd l D).foldl (fun (d : Int) q => (d * q.den).tdiv (Int.gcd d q.den)) (D / g : Nat) = (D / (l.foldl (fun g c => Nat.gcd g c.natAbs) g) : Nat) := by
  intro l
  induction l with
  | nil => intro g _; rfl
  | cons a l ih =>
   intro g hg
   have h1 := ih (Nat.gcd g a.natAbs) (Nat.dvd_trans (Nat.gcd_dvd_left _ _) hg)
   simp only [qd, List.map_cons, List.foldl_cons] at h1 ⊢
   rw [aal, w6 hD, UX hD hg (Nat.gcd_dvd_left _ _)]
   rw [show Nat.gcd g (Nat.gcd D a.natAbs) = Nat.gcd g a.natAbs by rw [← Nat.gcd_assoc, Nat.gcd_eq_left hg]]
   exact h1
 have h2 : ∀ (l : List Int) (g : Nat), l.foldl (fun g c => Nat.gcd g c.natAbs) g = Nat.gcd g (bI l) := by
  intro l
  unfold bI
  induction l with
  | nil => intro g; simp
  | cons a l ih =>
   intro g
   simp only [List.foldl_cons]
   rw [ih, ih (Nat.gcd 0 a.natAbs), Nat.gcd_zero_left, Nat.gcd_assoc]
 have h3 := key x D (Nat.dvd_refl _)
 rw [Nat.div_self hD, h2] at h3
 exact h3
theorem aam {D : Nat} (hD : 0 < D) (x : List Int) {G : Nat} (hG : G ∣ D) (hx : ∀ c ∈ x, (G : Int) ∣ c) : QX (D / G : Nat) (qd x D) = (bI x / G : Nat) := by
 have hG0 : 0 < G := Nat.pos_of_dvd_of_pos hG hD
 have key : ∀ (l : List Int) (g : Nat), (∀ c ∈ l, (G : Int) ∣ c) → G ∣ g → (qd l D).foldl (fun (g : Int) q => (Int.gcd g ((q.num * ((D / G : Nat) : Int)).tdiv q.den) : Int)) (g / G : Nat) = ((l.foldl (fun g c => Nat.gcd g c.natAbs) g) / G : Nat) := by
  intro l
  induction l with
  | nil => intro g _ _; rfl
  | cons a l ih =>
   intro g hl hg
   have ha : G ∣ a.natAbs := Int.ofNat_dvd_left.1 (hl a (by simp))
   have h1 := ih (Nat.gcd g a.natAbs) (fun c hc => hl c (by simp [hc])) (Nat.dvd_gcd hg ha)
   simp only [qd, List.map_cons, List.foldl_cons] at h1 ⊢
   have e : ((cV a D).num * ((D / G : Nat) : Int)).tdiv (cV a D).den = a / (G : Int) := by
    rw [w7 hD, w6 hD]
    have NR : Nat.gcd D a.natAbs ∣ D := Nat.gcd_dvd_left _ _
    have S7 : Nat.gcd D a.natAbs ∣ a.natAbs := Nat.gcd_dvd_right _ _
    have hgp : 0 < Nat.gcd D a.natAbs := Nat.gcd_pos_of_pos_left _ hD
    generalize Nat.gcd D a.natAbs = k at *
    obtain ⟨m, hm⟩ := NR
    obtain ⟨n, hn⟩ : (k : Int) ∣ a := Int.ofNat_dvd_left.2 S7
    obtain ⟨p, hp⟩ := hG
    obtain ⟨r, hr⟩ := hl a (by simp)
    have LG : 0 < m := by
     rcases Nat.eq_zero_or_pos m with h | h
     ·rw [h] at hm; omega
     ·exact h
    rw [show a / (k : Int) = n by rw [hn]; exact Int.mul_ediv_cancel_left _ (by omega), show D / G = p by rw [hp]; exact Nat.mul_div_cancel_left _ hG0, show D / k = m by rw [hm]; exact Nat.mul_div_cancel_left _ hgp,
     show a / (G : Int) = r by rw [hr]; exact Int.mul_ediv_cancel_left _ (by omega)]
    have e2 : n * (p : Int) = m * r := by
     have hDI : (k : Int) * m = G * p := by exact_mod_cast hm.symm.trans hp
     have hk : (k : Int) * n = G * r := hn.symm.trans hr
     have uV : (k : Int) ≠ 0 := by omega
     have hG1 : (G : Int) ≠ 0 := by omega
     have : (k : Int) * G * (n * p) = k * G * (m * r) := by
      have e3 : (k : Int) * G * (n * p) = (k * n) * (G * p) := by grind
      rw [e3, hk, ← hDI]; grind
     exact Int.eq_of_mul_eq_mul_left (Int.mul_ne_zero uV hG1) this
    rw [e2]
    exact Int.mul_tdiv_cancel_left _ (by omega)
   rw [e, show Int.gcd ((g / G : Nat) : Int) (a / (G : Int)) = Nat.gcd g a.natAbs / G from ?_]
   ·exact h1
   ·rw [Int.gcd, Int.natAbs_natCast, ← Nat.gcd_div hg ha]
    congr 1
    obtain ⟨r, hr⟩ := hl a (by simp)
    rw [hr, Int.mul_ediv_cancel_left _ (show (G : Int) ≠ 0 by omega), Int.natAbs_mul, Int.natAbs_natCast, Nat.mul_div_cancel_left _ hG0]
 have := key x 0 hx (Nat.dvd_zero _)
 rw [Nat.zero_div] at this
 exact this
theorem tY (D : Nat) (x : List Int) : V8 D x ∣ D := Nat.gcd_dvd_left _ _
theorem QY {D : Nat} (hD : 0 < D) (x : List Int) : 0 < V8 D x := Nat.gcd_pos_of_pos_left _ hD
theorem QZ (D : Nat) (x : List Int) : ∀ c ∈ x, ((V8 D x : Nat) : Int) ∣ c := fun c hc => Int.dvd_trans (Int.ofNat_dvd.2 (Nat.gcd_dvd_right _ _)) (gF x c hc)
theorem w8 {v : Int} {D : Nat} (hD : 0 < D) : (cV v D).num < 0 ↔ v < 0 := by
 rw [w7 hD]
 have hg : 0 < Nat.gcd D v.natAbs := Nat.gcd_pos_of_pos_left _ hD
 obtain ⟨n, hn⟩ : ((Nat.gcd D v.natAbs : Nat) : Int) ∣ v := Int.ofNat_dvd_left.2 (Nat.gcd_dvd_right _ _)
 generalize Nat.gcd D v.natAbs = g at *
 rw [hn, Int.mul_ediv_cancel_left _ (show (g : Int) ≠ 0 by omega)]
 constructor
 ·intro h; exact Int.mul_neg_of_pos_of_neg (by omega) h
 ·intro h
  rcases Int.lt_or_le n 0 with h1 | h1
  ·exact h1
  ·have := Int.mul_nonneg (show (0 : Int) ≤ g by omega) h1
   omega
theorem aan {D : Nat} (hD : 0 < D) {x : List Int} (hx : 0 < x.length) : N4 (qd x D) = cV (jV x) D := by
 have uX : (D : Int) ≠ 0 := by omega
 have e : (nth (qd x D) ((qd x D).length - 1)).num < 0 ↔ lead x < 0 := by
  rw [F5 uX, w8 hD]; simp [lead]
 have hG := QY hD x
 have e2 : cV (QX (HH (qd x D)) (qd x D)) (HH (qd x D)) = cV (bI x) D := by
  rw [GB hD, aam hD x (tY D x) (QZ D x)]
  have h1 : D / V8 D x * V8 D x = D := Nat.div_mul_cancel (tY D x)
  have h2 : bI x / V8 D x * V8 D x = bI x := Nat.div_mul_cancel (Nat.gcd_dvd_right _ _)
  have h3 : 0 < D / V8 D x := Nat.div_pos (Nat.le_of_dvd hD (tY D x)) hG
  have h4 := QV (v := (bI x / V8 D x : Nat)) (D := (D / V8 D x : Nat)) (l := (V8 D x : Nat)) (by omega) (by omega)
  rw [← Int.natCast_mul, ← Int.natCast_mul, h1, h2] at h4
  exact h4.symm
 unfold N4 jV
 rw [e2]
 by_cases h : lead x < 0
 ·rw [if_pos (e.2 h), if_pos h, ← QW uX]; grind
 ·rw [if_neg (fun h2 => h (e.1 h2)), if_neg h]
theorem Q0 {v D : Int} (hD : D ≠ 0) (hv : v ≠ 0) : 1 / cV v D = cV D v := by
 rw [eA hD, eA hv]
 have h1 := fG hD
 have h2 := fG hv
 grind
theorem N5 {x : List Int} (cx : Cn x) (hx : x ≠ []) : jV x ≠ 0 := by
 have h0 := mC x
 have gx := bW cx hx
 omega
theorem ajG {D : Nat} (hD : 0 < D) {x : List Int} (cx : Cn x) (hx : x ≠ []) : qpr (qd x D) = qs (pS x) := by
 have nN := List.length_pos_iff.2 hx
 have uX : (D : Int) ≠ 0 := by omega
 have hp := N5 cx hx
 have hc := fG hp
 have hDc := fG uX
 rw [qpr, aan hD nN, Q0 uX hp, jF, pS, ← tS]
 congr 1
 simp only [qd, qs, List.map_map]
 refine List.map_congr_left fun v hv => ?_
 simp only [Function.comp_apply]
 obtain ⟨w, rfl⟩ := F0 x v hv
 have : oV (jV x) (jV x * w) = w := by
  unfold oV
  rw [if_pos (Int.mul_emod_right _ _)]
  exact Int.mul_ediv_cancel_left _ hp
 rw [this, eA uX, eA hp, Rat.intCast_mul]
 grind
theorem JX (x : List Int) : iY x = if lead x < 0 then fJ (pS x) else pS x := by
 unfold pS jV
 split
 ·have e : ∀ v, oV (-(bI x : Int)) v = - oV (bI x) v := fun v => by
   unfold oV
   rw [Int.emod_neg, Int.ediv_neg]
   split <;> simp
  refine Cn.ext (Cn.cut _) (Cn.fJ _) fun t => ?_
  rw [zS, cF, iY, cF]
  have h1 := fN (t := t) (-1) (oV (bI x)) x
  have h2 : (x.map fun v => oV (bI x) v * -1) = x.map (oV (-(bI x : Int))) := List.map_congr_left fun v _ => by rw [e]; omega
  rw [h2] at h1
  rw [h1]; omega
 ·rfl
theorem N6 (x : List Int) (D : Nat) (hD : 0 < D) {s n : Nat} (hx : Bd 2 s n x) (sD : sz 2 D ≤ s) (cx : Cn x) (h0 : x ≠ []) (rD : 1 ≤ s) (hs : s ≤ YY) (hn : n < 1099511627776) :
  aI env.P 191 [PP (qd x D)] (.dP [RR (cV (jV x) D), PI (pS x)]) := by
 have uX : (D : Int) ≠ 0 := by omega
 have nN := List.length_pos_iff.2 h0
 have hp := N5 cx h0
 have hlen := hx.len
 have sdiv : ∀ (a b : Nat), sz 2 (a : Int) ≤ s → sz 2 ((a / b : Nat) : Int) ≤ s := fun a b h => Nat.le_trans (cG (by decide) (by rw [Int.natAbs_natCast, Int.natAbs_natCast]; exact Nat.div_le_self a b)) h
 have spc : sz 2 (jV x) ≤ s := by
  have := kS hx.sz
  refine Nat.le_trans (cG (by decide) (Nat.le_of_eq ?_)) this
  rw [mC]; rfl
 have tk : ∀ i, (qd x D).take i = qd (x.take i) D := fun i => by simp [qd, List.map_take]
 have hc := aan hD nN
 have h1 := pT (qd x D) (k := s) hs rD (fun q hq => by
   simp only [List.mem_map] at hq
   obtain ⟨v, hv, rfl⟩ := hq
   exact sC uX (hx.sz v hv) sD) (by simp; omega) (by simpa using h0)
  (fun i => by rw [tk, GB hD]; exact sdiv _ _ sD)
  (fun i => by
   rw [tk, GB hD]
   have := Nat.div_pos (Nat.le_of_dvd hD (tY D (x.take i))) (QY hD _)
   omega)
  (fun i => by
   rw [tk, GB hD, aam hD (x.take i) (tY D x) (fun c hc => QZ D x c (List.mem_of_mem_take hc))]
   exact sdiv _ _ (kS fun c hc => hx.sz c (List.mem_of_mem_take hc)))
  (by rw [hc]; exact sC uX (Nat.le_trans spc hs) (Nat.le_trans sD hs))
  (by rw [hc]; exact fun h => hp ((w5 uX).1 h))
  (by rw [hc, Q0 uX hp]; exact sC hp (Nat.le_trans sD hs) (Nat.le_trans spc hs))
 rw [hc, ajG hD cx h0, oQ] at h1
 exact h1
theorem aao {x : List Int} {s n : Nat} (hx : Bd 2 s n x) : Bd 2 s n (pS x) := Bd.cut ⟨by simpa using hx.len, fun c hc => by
 simp only [List.mem_map] at hc
 obtain ⟨v, hv, rfl⟩ := hc
 refine Nat.le_trans (cG (by decide) ?_) (hx.sz v hv)
 unfold oV
 split
 ·exact Int.natAbs_ediv_le_natAbs _ _
 ·simp⟩
theorem JY (x : List Int) (D : Nat) (hD : 0 < D) {s n : Nat} (hx : Bd 2 s n x) (sD : sz 2 D ≤ s) (cx : Cn x) (rD : 1 ≤ s) (hs : s ≤ YY) (hn : n < 1099511627776) :
  aI env.P 124 [PP (qd x D)] (PI (iY x)) := by
 have uX : (D : Int) ≠ 0 := by omega
 have bp := aao hx
 have hN := DU (pS x) (bp.mono hs (by omega))
 rw [JX]
 have hP : ∃ q : Rat, aI env.P 191 [PP (qd x D)] (.dP [RR q, PI (pS x)]) ∧ (q.num < 0 ↔ lead x < 0) := by
  by_cases h0 : x = []
  ·subst h0
   refine ⟨(jV [] : Int), ?_, ?_⟩
   ·have := AQ [] hx cx rD hs hn
    rw [RR, fP]
    exact this
   ·rw [show jV ([] : List Int) = 0 by decide]; decide
  ·refine ⟨_, N6 x D hD hx sD cx h0 rD hs hn, ?_⟩
   rw [w8 hD]
   have gx := bW cx h0
   unfold jV
   split <;> omega
 obtain ⟨q, hP, hq⟩ := hP
 generalize pS x = y at *
 generalize qd x D = l at *
 refine aB (E := env) (fun _ => 0) [(0, PP l)] Tryz.func124 rfl (by kernel_rfl) (by kernel_rfl) (show 1 ≤ 16 by decide) (by simp) ?_
 refine W.sr ?_; simp (disch := omega) [gw]; refine W.lx [0] ?_; simp
 refine W.sr ?_
 simp (disch := omega) [gw]
 refine aA hP ?_
 simp (disch := omega) [gw]
 refine W.lx [3, 4] ?_; simp
 refine W.seq ?_
 refine W.sr ?_; simp (disch := omega) [gw]; refine W.lx [4, 12] ?_; simp
 refine W.cond ⟨_, rfl, fun h => ?_, fun h => ?_⟩
 ·simp at h
  rw [if_pos (hq.1 h)]
  refine W.sr ?_
  simp (disch := omega) [gw]
  refine aA hN ?_
  simp (disch := omega) [gw]
  refine W.lx [2] ?_; simp
  refine W.ret ?_
  simp [go]
 ·have h : ¬ q.num < 0 := by simpa using h
  rw [if_neg (fun h2 => h (hq.2 h2))]
  refine W.skip ?_
  refine W.sr ?_; simp (disch := omega) [gw]; refine W.lx [2] ?_; simp
  refine W.ret ?_
  simp [go]
theorem JZ (x y : List Int) {s s' N : Nat} (hx : Bd 2 s N x) (hy : Bd 2 s' N y) (cx : Cn x) (cy : Cn y) (NI : 0 < y.length) (hs : 1 ≤ s) (hB : s + (N + 1) * (s' + N + 2) + s' + N + N + 10 < 137438953472) :
  aI env.P 172 [PP (qs x), PP (qs y)] (.dP [PP (qd (aM (dmd x y).Q) (dmd x y).D), PP (qd (dmd x y).r (dmd x y).D)]) := by
 have hNx := hx.len
 have hNy := hy.len
 have hl := cH cy NI
 have hls := eU hy
 have hM : x.length + 1 ≤ N + 1 := by omega
 refine aB (E := env) (fun id => if id = 17 then 2 else 0) [(0, PP (qs x)), (1, PP (qs y))] Tryz.func172 rfl (by kernel_rfl) (by kernel_rfl) (show 2 ≤ 84 by decide) (by simp) ?_
 obtain ⟨R0, HW⟩ : ∃ R0, R0 = UU y (x.length + 1) ⟨List.replicate (iG x y) 0, x, 1⟩ := ⟨_, rfl⟩
 rw [show dmd x y = R0 from HW.symm]
 have hkN : iG x y ≤ N := by unfold iG; omega
 have hkk : (if (x.length : Int) - (y.length : Int) + 1 < 0 then 0 else (x.length : Int) - (y.length : Int) + 1) = (iG x y : Int) := by unfold iG; split <;> omega
 have hI0 : sE x y ⟨List.replicate (iG x y) 0, x, 1⟩ := sE.start cx
 generalize uV : iG x y = k0 at *
 obtain ⟨a0, ha0⟩ : ∃ a0, a0 = qs x := ⟨_, rfl⟩
 obtain ⟨yq, hyq⟩ : ∃ yq, yq = qs y := ⟨_, rfl⟩
 have la0 : a0.length = x.length := by rw [ha0]; simp
 have lyq : yq.length = y.length := by rw [hyq]; simp
 rw [← ha0, ← hyq]
 refine W.sr ?_; simp (disch := omega) [gw]; refine W.lx [0, 1] ?_; simp
 refine W.sr ?_
 simp (disch := omega) [gw, la0, lyq, hkk]
 refine W.lx [0, 1, 6] ?_; simp
 refine W.seq ?_
 refine W.sr ?_; simp (disch := omega) [gw]; refine W.lx [0, 1, 6, 21, 22] ?_; simp
 refine W.block ?_
 refine W.bE (fun k σ => ∃ (i ver : Nat) (els : List (List PV)) (rows : Pm.Rows) (clk : Nat), σ = ⟨fa [(0, PP a0), (1, PP yq), (6, .own 19 ver 0 k0), (21, .int .i64 k0), (22, .int .i64 i)], rows, clk⟩ ∧
  rows 19 = some ⟨ver, 50, 4, els⟩ ∧ els.length = k0 ∧ (∀ e ∈ els, e.length = 4) ∧ els.take i = emap ri (List.replicate i 0) ∧ k = k0 - i ∧ i ≤ k0) k0 ?_ ?_
 ·exact ⟨_, .refl, 0, _, List.replicate k0 [.nil, .bool false, .nil, .bool false], _, _, rfl, by simp, by simp, by simp, by simp [emap], by omega, by omega⟩
 rintro k _ ⟨i, ver, els, rows, clk, rfl, hr, nP, JP, AM, hk, hi⟩
 have NG : bF 4 els = True := by simp only [bF, eq_iff_iff, iff_true]; exact JP
 refine W.sr ?_; simp (disch := omega) [gw]; refine W.lx [0, 1, 6, 21, 22, 23] ?_; simp
 refine W.seq ?_
 refine W.cond ⟨_, rfl, fun h => ?_, fun h => ?_⟩
 ·have h : i < k0 := by simp at h; omega
  refine W.skip ?_
  refine W.seq ?_
  refine W.block ?_
  refine W.sr ?_; simp (disch := omega) [gw]; refine W.lx [0, 1, 6, 7, 21, 22] ?_; simp
  refine W.cB (fun K hK => ?_)
  simp (disch := omega) [gw]
  refine aA nE ?_
  have uW : i < els.length := by omega
  have hE : tD els i 4 = True := by
   simp only [eq_iff_iff, iff_true]
   exact ⟨els[i], List.getElem?_eq_getElem uW, by rw [JP _ (List.getElem_mem uW)]; omega⟩
  have hS : iO els i 0 [aJ aF (aT DD 0), .bool false, aJ aF (aT DD 1), .bool false] = els.set i (ri 0) := by
   have h4 := JP _ (List.getElem_mem uW)
   rw [iO, List.getElem?_eq_getElem uW]
   simp [List.drop_of_length_le, h4]
  simp (disch := omega) [gw, hr, hE, hS]
  refine W.lw [0, 1, 6, 21, 22] hK ?_; clear hK K; simp
  refine W.cB (fun K hK => ?_); simp (disch := omega) [gw]
  refine hK _ ⟨k0 - (i + 1), _, aC _ [0, 1, 6, 21, 22], by omega, i + 1, ver, els.set i (ri 0), _, _, rfl, by simp, by simpa using nP, fun e he => ?_, ?_, by omega, by omega⟩
  ·rcases List.mem_or_eq_of_mem_set he with h1 | h1
   ·exact JP e h1
   ·rw [h1]; rfl
  ·rw [lE AM (by omega), List.replicate_succ']
   simp [emap]
 have h : i = k0 := by simp at h; omega
 subst h
 have rB : els = emap re (qd (List.replicate i 0) 1) := by rw [F6, AO, ← AM, bH nP]
 subst rB
 rw [show a0 = qd x 1 by rw [ha0, F6]]
 clear AM JP nP NG hk hi hkk ha0 la0 a0
 refine W.exit ?_; simp only [pX, if_true, if_false, reduceIte, Nat.reduceEqDiff]
 refine W.seq ?_
 refine W.block ?_
 generalize hdd : s' + N + 2 = d at *
 have Z5 : ∀ j, (x.length + 1 - j) * d ≤ (N + 1) * d := fun j => Nat.mul_le_mul_right _ (by omega)
 refine W.bE (fun n σ => ∃ (Q r : List Int) (D : Int) (v6 : Nat) (rows : Pm.Rows) (clk : Nat), σ = ⟨fa [(0, PP (qd r D)), (1, PP yq), (6, .own 19 v6 0 i)], rows, clk⟩ ∧
  rows 19 = some ⟨v6, 50, 4, emap re (qd Q D)⟩ ∧ Q.length = i ∧ sE x y ⟨Q, r, D⟩ ∧ r.length < n ∧ n ≤ x.length + 1 ∧ UU y n ⟨Q, r, D⟩ = R0 ∧ Bd 2 (s + (x.length + 1 - n) * d) N r ∧ sz 2 D ≤ s + (x.length + 1 - n) * d) (x.length + 1) ?_ ?_
 ·exact ⟨_, aC _ [0, 1, 6], _, x, 1, _, _, _, rfl, hr, by simp, hI0, by omega, by omega, HW.symm, hx.mono (by omega) (by omega), Nat.le_trans (cT (k := 1) (by decide) (by decide)) (by omega)⟩
 clear hr rows clk ver
 rintro n _ ⟨Q, r, D, v6, rows, clk, rfl, hr, hQ, hI, hrn, hnM, hd, br, bD⟩
 have hD : D ≠ 0 := hI.d
 have T8 := Z5 n
 obtain ⟨a, ha⟩ : ∃ a, a = qd r D := ⟨_, rfl⟩
 have la : a.length = r.length := by rw [ha]; simp
 rw [← ha]
 refine W.seq ?_
 refine W.sr ?_
 simp (disch := omega) [gw, la, lyq]
 refine W.lx [0, 1, 6, 34] ?_; simp
 refine W.cond ⟨_, rfl, fun h => ?_, fun h => ?_⟩
 ·have h : y.length ≤ r.length := by simp at h; omega
  obtain ⟨n, rfl⟩ : ∃ m, n = m + 1 := ⟨n - 1, by omega⟩
  obtain ⟨k, hk⟩ : ∃ k, k = r.length - y.length := ⟨_, rfl⟩
  have hkI : (r.length : Int) - (y.length : Int) = k := by omega
  have hki : k < i := by have := hI.q.resolve_right (show ¬ r.length < y.length by omega); simp only at this; omega
  have hI2 := hI.step cy NI h
  have ZE := F7 (σ := ⟨Q, r, D⟩) NI h
  rw [UU, if_neg (show ¬ r.length < y.length by omega)] at hd
  simp only [dst, ← hk] at hI2 ZE hd
  have hT : s + (x.length + 1 - n) * d = s + (x.length + 1 - (n + 1)) * d + d := by
   rw [show x.length + 1 - n = (x.length + 1 - (n + 1)) + 1 by omega, Nat.add_mul, Nat.one_mul]; omega
  have hn3 := Z5 n
  generalize hU : s + (x.length + 1 - (n + 1)) * d = U at *
  have hlr := eU br
  have hNr := br.len
  have HF : D * lead y ≠ 0 := Int.mul_ne_zero hD hl
  have zD2 : sz 2 (D * lead y) ≤ U + s' := bT (by decide) bD hls
  have hp : nth a (r.length - 1) = cV (lead r) D := by rw [ha, F5 hD]; rfl
  have LK : nth yq (y.length - 1) = (lead y : Rat) := by rw [hyq, Z4]; rfl
  have apk := AL (cV (lead r) D) (lead y : Rat) (sC hD (Nat.le_trans hlr (by show U ≤ 137438953472; omega)) (Nat.le_trans bD (by show U ≤ 137438953472; omega))) (mR (Nat.le_trans hls (by show s' ≤ 137438953472; omega)) (by decide)) (fG hl)
  rw [aea hD hl] at apk
  have hSc := oA yq (cV (lead r) (D * lead y)) (by rw [hyq]; exact UN.qs (fun c hc => Nat.le_trans (hy.sz c hc) (by show s' ≤ 137438953472; omega)) (by omega)) (sC HF (Nat.le_trans hlr (by show U ≤ 137438953472; omega)) (Nat.le_trans zD2 (by show U + s' ≤ 137438953472; omega)))
  rw [hyq, UT HF, ← hyq] at hSc
  have bsc : Bd 2 (U + s') N (aX y (lead r)) := (hy.aX (by decide) hlr).mono (by omega) (by omega)
  have bw : Bd 2 (U + s') N (List.replicate k 0 ++ aX y (lead r)) := ⟨by have := n4 y (lead r); simp; omega, fun c hc => by
   rcases List.mem_append.1 hc with h1 | h1
   ·rw [(List.mem_replicate.1 h1).2, jD]; omega
   ·exact bsc.sz c h1⟩
  have brl : Bd 2 (U + s') N (r.map (· * lead y)) := ⟨by simpa using br.len, fun c hc => by
   simp only [List.mem_map] at hc
   obtain ⟨v, hv, rfl⟩ := hc
   exact bT (by decide) (br.sz v hv) hls⟩
  have hSu := aag (qd (r.map (· * lead y)) (D * lead y)) (qd (List.replicate k 0 ++ aX y (lead r)) (D * lead y)) _
   (NZ HF brl zD2 (by show U + s' ≤ 137438953472; omega) (by omega)) (NZ HF bw zD2 (by show U + s' ≤ 137438953472; omega) (by omega)) (aec HF _) (NZ HF bw.fJ zD2 (by show U + s' ≤ 137438953472; omega) (by omega))
  rw [aeb HF, NY hD hl, ← ha] at hSu
  have er : gC (r.map (· * lead y)) (fJ (List.replicate k 0 ++ aX y (lead r))) = uT y (lead y) (lead r) k r := Cn.ext (Cn.gC _ _) (Cn.eC _ _) fun t => by
   rw [pJ, dE, zS, dK, oN, bV, uT, gS, bV, cR, mA, List.length_replicate]; grind
  have br2 : Bd 2 (U + d) N (uT y (lead y) (lead r) k r) := by
   rw [← er]
   exact (Bd.gC (by decide) brl bw.fJ).mono (by omega) (by omega)
  rw [er] at hSu
  have ew : qd (List.replicate k 0 ++ aX y (lead r)) (D * lead y) = List.replicate k 0 ++ qd (aX y (lead r)) (D * lead y) := by
   simp only [qd, List.map_append, List.map_replicate, tV HF]
  rw [ew] at hSu
  have lb : (qd (aX y (lead r)) (D * lead y)).length ≤ N := by have := bsc.len; simpa using this
  have Z6 : (qd Q D).set k (cV (lead r) (D * lead y)) = qd ((Q.map (· * lead y)).set k (lead r)) (D * lead y) := by
   rw [← NY hD hl Q, qd, qd, List.map_set]
  have hQl : (qd Q D).length = i := by simpa using hQ
  refine W.skip ?_
  refine W.block ?_
  generalize hz : qd Q D = z at *
  generalize qd (aX y (lead r)) (D * lead y) = b at *
  generalize N7 : cV (lead r) (D * lead y) = c at *
  generalize hp2 : cV (lead r) D = p at *
  generalize hlq : (lead y : Rat) = lq at *
  generalize ha2 : qd (uT y (lead y) (lead r) k r) (D * lead y) = a2 at *
  refine W.sr ?_; simp (disch := omega) [gw, la, lyq, hkI]; refine W.lx [0, 1, 6, 8] ?_; simp
  have ayQ : 0 < r.length := by omega
  have e1 : ((r.length : Int) - 1).toNat = r.length - 1 := by omega
  have e2 : ((y.length : Int) - 1).toNat = y.length - 1 := by omega
  refine W.sd ?_
  simp (disch := omega) [gw, la, lyq, e1, e2, hp, LK]
  refine aA apk ?_
  simp (disch := omega) [gw]
  rw [if_pos (by kernel_rfl)]
  simp (disch := omega) [gw]
  refine W.lx [0, 1, 6, 8, 9] ?_; simp
  have hkl : k < z.length := by omega
  refine W.sr ?_; simp (disch := omega) [gw, hr, hkl]; refine W.lx [0, 1, 6, 8, 9] ?_; simp
  refine W.sr ?_; simp (disch := omega) [gw]; refine W.lx [0, 1, 6, 8, 9, 10] ?_; simp
  refine W.seq ?_
  refine W.sr ?_; simp (disch := omega) [gw]; refine W.lx [0, 1, 6, 8, 9, 10, 60, 61] ?_; simp
  refine W.block ?_
  refine W.bE (fun m σ => ∃ (j v9 v10 v6 : Nat) (els : List (List PV)) (rows : Pm.Rows) (clk : Nat), σ = ⟨fa [(0, PP a), (1, PP yq), (6, .own 19 v6 0 i), (9, .ptr 9 v9 0 0), (10, .own 58 v10 0 k), (60, .int .i64 k), (61, .int .i64 j)], rows, clk⟩ ∧
   rows 19 = some ⟨v6, 50, 4, emap re (z.set k c)⟩ ∧ rows 9 = some ⟨v9, 50, 4, [[aJ aF (aT DD c.num.natAbs), .bool (decide (c.num < 0)), aJ aF (aT DD c.den), .bool false]]⟩ ∧
   rows 58 = some ⟨v10, 50, 4, els⟩ ∧ els.length = k ∧ (∀ e ∈ els, e.length = 4) ∧ els.take j = emap ri (List.replicate j 0) ∧ m = k - j ∧ j ≤ k) k ?_ ?_
  ·exact ⟨_, aC _ [0, 1, 6, 9, 10, 60, 61], 0, _, _, _, List.replicate k [.nil, .bool false, .nil, .bool false], _, _, rfl, by simp [hr], by simp, by simp, by simp, by simp, by simp [emap], by omega, by omega⟩
  clear hr rows clk v6
  rintro m _ ⟨j, v9, v10, v6, els, rows, clk, rfl, hr, J0, JR, nP, JP, AM, hm, hj⟩
  have NG : bF 4 els = True := by simp only [bF, eq_iff_iff, iff_true]; exact JP
  refine W.sr ?_; simp (disch := omega) [gw]; refine W.lx [0, 1, 6, 9, 10, 60, 61, 62] ?_; simp
  refine W.seq ?_
  refine W.cond ⟨_, rfl, fun h => ?_, fun h => ?_⟩
  ·have h : j < k := by simp at h; omega
   refine W.skip ?_
   refine W.seq ?_
   refine W.block ?_
   refine W.sr ?_; simp (disch := omega) [gw]; refine W.lx [0, 1, 6, 9, 10, 11, 60, 61] ?_; simp
   refine W.cB (fun K hK => ?_)
   simp (disch := omega) [gw]
   refine aA nE ?_
   have uW : j < els.length := by omega
   have hE : tD els j 4 = True := by
    simp only [eq_iff_iff, iff_true]
    exact ⟨els[j], List.getElem?_eq_getElem uW, by rw [JP _ (List.getElem_mem uW)]; omega⟩
   have hS : iO els j 0 [aJ aF (aT DD 0), .bool false, aJ aF (aT DD 1), .bool false] = els.set j (ri 0) := by
    have h4 := JP _ (List.getElem_mem uW)
    rw [iO, List.getElem?_eq_getElem uW]
    simp [List.drop_of_length_le, h4]
   simp (disch := omega) [gw, JR, hE, hS]
   refine W.lw [0, 1, 6, 9, 10, 60, 61] hK ?_; clear hK K; simp
   refine W.cB (fun K hK => ?_); simp (disch := omega) [gw]
   refine hK _ ⟨k - (j + 1), _, aC _ [0, 1, 6, 9, 10, 60, 61], by omega, j + 1, v9, v10, v6, els.set j (ri 0), _, _, rfl, by simp [hr], by simp [J0], by simp, by simpa using nP, fun e he => ?_, ?_, by omega, by omega⟩
   ·rcases List.mem_or_eq_of_mem_set he with h1 | h1
    ·exact JP e h1
    ·rw [h1]; rfl
   ·rw [lE AM (by omega), List.replicate_succ']
    simp [emap]
  have h : j = k := by simp at h; omega
  subst h
  have rB : els = emap re (List.replicate j 0) := by
   have h1 : emap ri (List.replicate j 0) = emap re (List.replicate j 0) := by simp [emap, fP]
   rw [← h1, ← AM, bH nP]
  subst rB
  clear AM JP nP NG
  refine W.exit ?_; simp only [pX, if_true, if_false, reduceIte, Nat.reduceEqDiff]
  refine W.M9 (fun K hK => ?_)
  rw [if_pos rfl, dU]
  have hsl : ((List.take r.length a).drop 0) = a := by rw [List.drop_zero, List.take_of_length_le (by omega)]
  simp (disch := omega) [gw, la, lyq, J0, E9, hsl]
  refine aA hSc ?_
  have BV : List.take (j + b.length) (List.replicate j 0 ++ b) = List.replicate j 0 ++ b := List.take_of_length_le (by simp)
  simp (disch := omega) [gw, JR, BV]
  refine aA hSu ?_
  simp (disch := omega) [gw]
  subst ha2
  have cO : rows 19 = some ⟨v6, 50, 4, emap re (qd ((Q.map (· * lead y)).set j (lead r)) (D * lead y))⟩ := by rw [hr, Z6]
  refine hK _ ⟨n, _, aC _ [0, 1, 6], by omega, (Q.map (· * lead y)).set j (lead r), uT y (lead y) (lead r) j r, D * lead y, v6, _, _, rfl, by simp [cO], by simpa using hQ, hI2, by omega, by omega, hd, ?_, ?_⟩
  ·rw [hT]; exact br2
  ·rw [hT]; exact Nat.le_trans zD2 (by omega)
 ·have h : r.length < y.length := by simp at h; omega
  rw [aed h] at hd
  subst hd
  refine W.exit ?_; simp only [pX, if_true, if_false, reduceIte, Nat.reduceEqDiff]
  have hcq := tT (qd Q D) (by simp; omega)
  rw [tW hD] at hcq
  have hQl : (qd Q D).length = i := by simpa using hQ
  have uU := bH hQl
  rw [← ha]
  generalize qd Q D = z at *
  generalize qd (aM Q) D = z2 at *
  refine W.sr ?_
  simp (disch := omega) [gw, hr, uU]
  refine aA hcq ?_
  simp (disch := omega) [gw]
  refine W.lx [4, 5] ?_; simp
  refine W.ret ?_
  simp [go]
theorem J1 {x y : List Int} (cy : Cn y) (hy : 0 < y.length) : ∀ (j : Nat), j ≤ x.length → exs y j (List.replicate j 0 ++ x.drop j) (bJ (aM (x.take j)) y) = some (x, [])
 | 0, _ => by
  have : bJ (aM (x.take 0)) y = [] := Cn.ext (Cn.bJ _ _) Cn.nil fun t => by rw [cR, cF]; simp [V]
  rw [exs, this]; rfl
 | j + 1, h => by
  have ih := J1 (x := x) cy hy j (by omega)
  have hly := cH cy hy
  have ht := bA (l := x) (i := j) (by omega)
  have hdr : x.drop j = nth x j :: x.drop (j + 1) := by
   rw [List.drop_eq_getElem_cons (l := x) (i := j) (by omega), show nth x j = x[j] from cE (by omega)]
  rw [exs]
  by_cases hv : nth x j = 0
  ·have hw : aM (x.take (j + 1)) = aM (x.take j) := by rw [ht, hv, iQ]
   rw [hw]
   have h1 := pL (x := aM (x.take j)) hy
   have h2 := bO (x.take j)
   rw [List.length_take] at h2
   rw [if_pos (by omega), ← ih]
   rw [hdr, hv, List.replicate_succ', List.append_assoc]; rfl
  ·have hw : aM (x.take (j + 1)) = x.take j ++ [nth x j] := by rw [ht]; exact jB hv _
   have cw : Cn (x.take j ++ [nth x j]) := jB hv _
   have hwl : (x.take j ++ [nth x j]).length = j + 1 := by simp; omega
   have hlw : lead (x.take j ++ [nth x j]) = nth x j := by
    rw [lead, hwl, Nat.add_sub_cancel, cE (by omega)]
    have : (x.take j).length = j := by simp; omega
    simp [List.getElem_append_right, this]
   rw [hw]
   have hl := iT cw cy (by omega) hy
   have hd := vA cw cy (by omega) hy
   rw [hwl] at hl
   rw [hlw] at hd
   rw [if_neg (by omega), hd, if_pos (Int.mul_emod_left _ _), Int.mul_ediv_cancel _ hly]
   have e1 : eC (bJ (x.take j ++ [nth x j]) y) (bJ (oS j (nth x j)) y) = bJ (aM (x.take j)) y := Cn.ext (Cn.eC _ _) (Cn.bJ _ _) fun t => by
    rw [gS, cR, cR, cR, cF, dK, l5, mA, show (x.take j).length = j by simp; omega]
    grind
   have e2 : (List.replicate (j + 1) 0 ++ x.drop (j + 1)).set j (nth x j) = List.replicate j 0 ++ x.drop j := by
    rw [hdr, List.replicate_succ', List.append_assoc, List.set_append_right _ _ (by simp)]
    simp
   rw [e1, e2]
   exact ih
theorem N8 {x y : List Int} (cx : Cn x) (cy : Cn y) (hy : 0 < y.length) : exact (bJ x y) y = some x := by
 have hk : iG (bJ x y) y = x.length := by
  rcases Nat.eq_zero_or_pos x.length with h | h
  ·have : x = [] := List.eq_nil_of_length_eq_zero h
   have e : bJ x y = [] := Cn.ext (Cn.bJ _ _) Cn.nil fun t => by rw [cR, this]; simp [V]
   rw [e, this]; simp [iG]; omega
  ·have := iT cx cy h hy
   unfold iG; omega
 have h1 := J1 (x := x) cy hy x.length (Nat.le_refl _)
 rw [List.take_length, show aM x = x from cx, List.drop_length, List.append_nil] at h1
 rw [exact, hk, h1, exF, show aM x = x from cx]
theorem GC {y h : List Int} (cy : Cn y) (hy : 0 < y.length) (e : ∀ t, V t y * V t h = 0) : aM h = [] := by
 by_cases hh : aM h = []
 ·exact hh
 ·exfalso
  have h1 : bJ y (aM h) = [] := Cn.ext (Cn.bJ _ _) Cn.nil fun t => by rw [cR, cF, e]; rfl
  have h2 := iT cy (Cn.cut h) hy (List.length_pos_iff.2 hh)
  rw [h1] at h2
  have := List.length_pos_iff.2 hh
  simp at h2; omega
theorem J2 {a b : List Int} (h : aM (eC a b) = []) (t : Int) : V t a = V t b := by
 have h1 := gS (t := t) a b
 rw [← cF, h] at h1
 have : V t ([] : List Int) = 0 := rfl
 omega
theorem UY {D : Int} (h : D ≠ 0) (x : List Int) : qd (x.map (· * D)) D = qs x := by
 have := NY (D := 1) (l := D) (by decide) h x
 rw [Int.one_mul, F6] at this
 exact this
theorem aap {x y q : List Int} (cx : Cn x) (cy : Cn y) (hy : 0 < y.length) (cq : Cn q) (h : ∀ t, V t x = V t q * V t y) : qd (aM (dmd x y).Q) (dmd x y).D = qs q ∧ (dmd x y).r = [] := by
 obtain ⟨hI, hr⟩ := aee cx cy hy
 generalize dmd x y = σ at *
 have hv := hI.v
 have e : ∀ t, V t σ.r = V t y * V t (eC (q.map (· * σ.D)) σ.Q) := fun t => by
  have h1 := hv t
  rw [h] at h1
  rw [gS, dE]
  grind
 have h1 := DH hI.c cy hy e hr
 have h2 : aM (eC (q.map (· * σ.D)) σ.Q) = [] := GC cy hy fun t => by rw [← e, h1]; rfl
 have e2 : aM σ.Q = q.map (· * σ.D) := Cn.ext (Cn.cut _) (jT cq hI.d) fun t => by rw [cF]; exact (J2 h2 t).symm
 rw [e2]
 exact ⟨UY hI.d q, h1⟩
end Go.Proofs.YtbbjgncblhfegaaGreat
