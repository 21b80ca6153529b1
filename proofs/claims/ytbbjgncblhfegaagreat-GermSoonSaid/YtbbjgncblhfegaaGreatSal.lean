import Derived.Test.YtbbjgncblhfegaaGreatSaf
import Derived.Test.YtbbjgncblhfegaaGreatSak
set_option linter.unusedSimpArgs false
set_option linter.unusedVariables false
namespace Go.Proofs.YtbbjgncblhfegaaGreat
open Go Pm
theorem aef (x : List Int) : k8 (x.map rC) = aM x := by simp only [k8, bQ]
theorem j0 {x : List Int} (hx : Cn x) {m : Int} (hm : m ≠ 0) : Cn (x.map (· * m)) := by
 rcases Nat.eq_zero_or_pos x.length with h | h
 ·have : x = [] := List.eq_nil_of_length_eq_zero h
  subst this; rfl
 ·have e := r9 h
  have : x.map (· * m) = (x.take (x.length - 1)).map (· * m) ++ [lead x * m] := by
   conv => lhs; rw [e]
   simp
  rw [this]
  exact fQ (Int.mul_ne_zero (cD hx h) hm) _
theorem qS {x : List Int} (hx : Cn x) {m : Int} (hm : m ≠ 0) : aV x m = x.map (· * m) := j0 hx hm
theorem NO {x : List Int} (hx : Cn x) : aV x 1 = x := Cn.ext (Cn.aV _ _) hx fun t => by rw [bW]; omega
theorem NP (x : List Int) : fI x = aV x (-1) := Cn.ext (Cn.fI _) (Cn.aV _ _) fun t => by rw [zF, bW]; omega
theorem j1 (m : Int) (x : List Int) : bG (x.map (· * m)) = bG x * m.natAbs := by
 have key : ∀ (l : List Int) (g : Nat), (l.map (· * m)).foldl (fun g c => Nat.gcd g c.natAbs) (g * m.natAbs) = l.foldl (fun g c => Nat.gcd g c.natAbs) g * m.natAbs := by
  intro l
  induction l with
  | nil => intro g; rfl
  | cons c l ih =>
   intro g
   simp only [List.map_cons, List.foldl_cons]
   rw [Int.natAbs_mul, Nat.gcd_mul_right, ih]
 have := key x 0
 rw [Nat.zero_mul] at this
 exact this
theorem UU {m : Int} (hm : 0 < m) (g v : Int) : o6 (g * m) (v * m) = o6 g v := by
 unfold o6
 rw [Int.mul_comm v, Int.mul_comm g, Int.mul_emod_mul_of_pos _ _ hm, Int.mul_ediv_mul_of_pos _ _ hm]
 have : m * (v % g) = 0 ↔ v % g = 0 := by
  constructor
  ·intro h
   rcases Int.mul_eq_zero.1 h with h | h
   ·omega
   ·exact h
  ·intro h; rw [h]; simp
 simp only [this]
theorem NQ {m : Int} (hm : 0 < m) (x : List Int) : iZ (x.map (· * m)) = iZ x := by
 unfold iZ
 rw [j1, List.map_map]
 congr 1
 refine List.map_congr_left fun v _ => ?_
 simp only [Function.comp_apply]
 have : ((bG x * m.natAbs : Nat) : Int) = (bG x : Int) * m := by rw [Int.natCast_mul]; congr 1; omega
 rw [this, UU hm]
theorem wU {x : List Int} (hx : Cn x) {m : Int} (hm : 0 < m) : iZ (aV x m) = iZ x := by rw [qS hx (by omega), NQ hm]
def sg (c : Int) (k : Nat) : Int := if k % 2 = 1 ∧ c < 0 then -1 else 1
theorem aae (c : Int) : ∀ k : Nat, c ^ k = sg c k * (c.natAbs : Int) ^ k
 | 0 => by simp [sg]
 | k + 1 => by
  have ih := aae c k
  have hc : c = (if c < 0 then -1 else 1) * (c.natAbs : Int) := by split <;> omega
  have hs : sg c (k + 1) = sg c k * (if c < 0 then -1 else 1) := by
   unfold sg
   by_cases h : c < 0
   ·rcases Nat.mod_two_eq_zero_or_one k with h2 | h2
    ·rw [if_pos ⟨by omega, h⟩, if_neg (by omega), if_pos h]; rfl
    ·rw [if_neg (by omega), if_pos ⟨h2, h⟩, if_pos h]; rfl
   ·rw [if_neg (fun h2 => h h2.2), if_neg (fun h2 => h h2.2), if_neg h]; rfl
  rw [Int.pow_succ, Int.pow_succ, ih, hs]
  conv => lhs; rw [hc]
  generalize (if c < 0 then (-1 : Int) else 1) = e at *
  have e3 : ((e * (c.natAbs : Int)).natAbs : Int) = (c.natAbs : Int) := by rw [← hc]
  rw [e3]
  grind
theorem aaf (c : Int) (k : Nat) : sg c k * sg c k = 1 := by unfold sg; split <;> rfl
theorem aag {a b : List Int} (ca : Cn a) : JP a b = iZ (aV (wN a b).2 (sg (lead b) (iF a b))) := by
 have cr := (zI (b := b) ca).2
 unfold JP sg
 split
 ·rw [NP]
 ·rw [NO cr]
theorem kH (x : List Int) : (iZ x).length ≤ x.length := Nat.le_trans (bM _) (by simp)
theorem JS (x : List Int) : (fI x).length ≤ x.length := Nat.le_trans (bM _) (by simp)
theorem aeg {a b : List Int} (hb : 0 < b.length) : (JP a b).length < b.length := by
 have h1 := FC (a := a) hb
 unfold JP
 split
 ·have h2 := kH (fI (wN a b).2)
  have h3 := JS (wN a b).2
  omega
 ·have h2 := kH (wN a b).2
  omega
theorem ajJ (a b : List Int) : Cn (JP a b) := by unfold JP; split <;> exact Cn.cut _
def exs (b : List Int) : Nat → List Int → List Int → Option (List Int × List Int)
 | 0, q, a => some (q, a)
 | i + 1, q, a => if a.length < b.length + i then exs b i q a else if lead a % lead b = 0 then exs b i (q.set i (lead a / lead b)) (dZ a (bH (oW i (lead a / lead b)) b)) else none
def exF : Option (List Int × List Int) → Option (List Int)
 | some (q, []) => some (aM q)
 | _ => none
def exact (a b : List Int) : Option (List Int) := exF (exs b (iF a b) (List.replicate (iF a b) 0) a)
def exR (o : Option (List Int)) : PV :=
 match o with
 | some q => .eP [Po q, .int .i64 0]
 | none => .eP [Po [], .int .i64 3]
theorem Bd.set {B s n : Nat} {x : List Int} (h : Bd B s n x) {i : Nat} {v : Int} (hv : Pm.sz B v ≤ s) : Bd B s n (x.set i v) := ⟨by simpa using h.len, fun c hc => by
 rcases List.mem_or_eq_of_mem_set hc with h1 | h1
 ·exact h.sz c h1
 ·rw [h1]; exact hv⟩
theorem UW (a b : RP) {s s' N : Nat} (ha : rD a) (hb : rD b) (sa : Bd LL s N (a.map gv)) (sb : Bd LL s' N (b.map gv)) (hB : s + N * (s' + N + 1) + s' + N + N + 10 < 1099511627774) :
  aJ env.P 225 [Pg a, Pg b] (if k8 b = [] then .eP [Po [], .int .i64 2] else exR (exact (k8 a) (k8 b))) := by
 have hA : Bd LL s N (k8 a) := sa.cut
 have QP : Bd LL s' N (k8 b) := sb.cut
 have ca : Cn (k8 a) := Cn.cut _
 have cb : Cn (k8 b) := Cn.cut _
 have na := gJ a ha
 have nb := gJ b hb
 rw [show aM (a.map gv) = k8 a from rfl] at na
 rw [show aM (b.map gv) = k8 b from rfl] at nb
 refine aB (E := env) (fun _ => 0) [(0, Pg a), (1, Pg b)] Tryz.func225 rfl (by kernel_rfl) (by kernel_rfl) (show 2 ≤ 71 by decide) (by simp) ?_
 generalize k8 a = x at *
 generalize k8 b = y at *
 refine W.sr ?_; simp (disch := omega) [gw]; refine W.lx [0, 1] ?_; simp
 refine W.sr ?_
 simp (disch := omega) [gw]
 refine aA na ?_
 simp (disch := omega) [gw]
 refine aA nb ?_
 simp (disch := omega) [gw]
 refine W.lx [0, 1] ?_; simp
 refine W.seq ?_
 refine W.sr ?_; simp (disch := omega) [gw]; refine W.lx [0, 1, 17] ?_; simp
 refine W.cond ⟨_, rfl, fun h => ?_, fun h => ?_⟩
 ·have h : y = [] := by simp at h; exact h
  rw [if_pos h]
  refine W.sr ?_; simp (disch := omega) [gw]; refine W.lx [4, 5] ?_; simp
  refine W.ret ?_
  simp [go]
  rfl
 have hy : y ≠ [] := by simp at h; exact h
 clear h
 rw [if_neg hy]
 have NB : 0 < y.length := List.length_pos_iff.2 hy
 have hNx := hA.len
 have hNy := QP.len
 have hsy := eT QP
 have hly := cD cb NB
 have hL := jZ (PB.of QP (by omega) (by omega)) cb
 have hDy := lK y (by omega)
 have hkN : iF x y ≤ N := by unfold iF; omega
 generalize hdd : s' + N + 1 = d at *
 have hNN : ∀ j, j ≤ N → (N - j) * d ≤ N * d := fun j _ => Nat.mul_le_mul_right _ (by omega)
 have hkk : (if (0 : Int) < (x.length : Int) - (y.length : Int) + 1 then (x.length : Int) - (y.length : Int) + 1 else 0) = (iF x y : Int) := by unfold iF; split <;> omega
 refine W.skip ?_
 refine W.sr ?_
 simp (disch := omega) [gw, hkk]
 refine W.lx [0, 1, 6] ?_; simp
 refine W.row (id := 25) (emap ie (List.replicate (iF x y) 0)) (by simp; exact ⟨rfl, rfl, rfl⟩) (pS _) ?_
 refine W.seq ?_
 refine W.sr ?_; simp (disch := omega) [gw]; refine W.lx [0, 1, 6, 7] ?_; simp
 refine W.block ?_
 obtain ⟨R0, HQ⟩ : ∃ R0, R0 = exs y (iF x y) (List.replicate (iF x y) 0) x := ⟨_, rfl⟩
 have hex : exact x y = exF R0 := by rw [HQ]; rfl
 rw [hex]
 clear hex
 generalize wQ : iF x y = k0 at *
 refine W.a9 (fun j σ => ∃ (v6 : Nat) (z r : List Int) (rows : Pm.Rows) (clk : Nat), σ = ⟨fa [(0, Po r), (1, Po y), (6, .own 25 v6 0 k0), (7, .int .i64 ((j : Int) - 1))], rows, clk⟩ ∧
  rows 25 = some ⟨v6, 40, 2, emap ie z⟩ ∧ z.length = k0 ∧ j ≤ k0 ∧ exs y j z r = R0 ∧ Bd LL (s + (N - j) * d) (N + N) z ∧ Bd LL (s + (N - j) * d) (N + N) r ∧ Cn r) k0 ?_ ?_
 ·exact ⟨_, .refl, _, List.replicate k0 0, x, _, _, rfl, by simp, by simp, by omega, HQ.symm, ⟨by simp; omega, fun c hc => by rw [(List.mem_replicate.1 hc).2, jC]; omega⟩, hA.mono (by omega) (by omega), ca⟩
 rintro j _ ⟨v6, z, r, rows, clk, rfl, aai, hz, hj, wT, bz, br, cr⟩
 refine W.seq ?_
 refine W.sr ?_; simp (disch := omega) [gw]; refine W.lx [0, 1, 6, 7, 30] ?_; simp
 refine W.cond ⟨_, rfl, fun h => ?_, fun h => ?_⟩
 ·have hj0 : 0 < j := by simp at h; omega
  obtain ⟨i, rfl⟩ : ∃ i, j = i + 1 := ⟨j - 1, by omega⟩
  clear h
  have ei : ((i + 1 : Nat) : Int) - 1 = i := by omega
  rw [ei]
  have hN1 := hNN (i + 1) (by omega)
  have FP := hNN i (by omega)
  have hT : s + (N - i) * d = s + (N - (i + 1)) * d + s' + N + 1 := by
   rw [show N - i = (N - (i + 1)) + 1 by omega, Nat.add_mul, Nat.one_mul]; omega
  have hDr := lK r (by have := br.len; omega)
  have hLr := jZ (PB.of br (by omega) (by omega)) cr
  have hlr := eT br
  rw [exs] at wT
  refine W.skip ?_
  refine W.eM (fun σ => ∃ (z r : List Int) (rows : Pm.Rows) (clk : Nat), σ = ⟨fa [(0, Po r), (1, Po y), (6, .own 25 v6 0 k0), (7, .int .i64 i)], rows, clk⟩ ∧
   rows 25 = some ⟨v6, 40, 2, emap ie z⟩ ∧ z.length = k0 ∧ exs y i z r = R0 ∧ Bd LL (s + (N - i) * d) (N + N) z ∧ Bd LL (s + (N - i) * d) (N + N) r ∧ Cn r) ?_ ?_
  ·
   refine W.seq ?_
   refine W.sr ?_
   simp (disch := omega) [gw]
   refine aA hDr ?_
   simp (disch := omega) [gw]
   refine aA hDy ?_
   simp (disch := omega) [gw]
   refine W.lx [0, 1, 6, 7, 39] ?_; simp
   by_cases hlen : r.length < y.length + i
   ·rw [if_pos hlen] at wT
    refine W.cond ⟨_, rfl, fun h => ?_, fun h => ?_⟩
    ·refine W.exit ?_; simp only [pX, if_true, if_false, reduceIte, Nat.reduceEqDiff]
     exact ⟨_, aC _ [0, 1, 6, 7], z, r, _, _, rfl, aai, hz, wT, bz.mono (by omega) (by omega), br.mono (by omega) (by omega), cr⟩
    ·exfalso; simp at h; omega
   rw [if_neg hlen] at wT
   refine W.cond ⟨_, rfl, fun h => ?_, fun h => ?_⟩
   ·exfalso; simp at h; omega
   clear h
   have hE := FO (v := lead r) (c := lead y) (by omega) (by omega) hly
   refine W.skip ?_
   by_cases ZP : lead r % lead y = 0
   ·rw [if_pos ZP] at hE wT
    have hts : sz LL (lead r / lead y) ≤ s + (N - (i + 1)) * d := Nat.le_trans (cC fS (Int.natAbs_ediv_le_natAbs _ _)) hlr
    have bs := Bd.oW hts i
    have bm := bs.bH fS QP
    have b2 : Bd LL (s + (N - i) * d) (N + N) (dZ r (bH (oW i (lead r / lead y)) y)) := (Bd.dZ fS (br.mono (s' := s + (N - (i + 1)) * d + s' + N) (n' := N + N) (by omega) (by omega)) (bm.mono (by omega) (by omega))).mono (by omega) (by omega)
    have f4 := vB bs QP (by omega)
    have f5 := DL (PB.of br (by omega) (by omega)) (PB.of bm (by omega) (by omega))
    have cr2 : Cn (dZ r (bH (oW i (lead r / lead y)) y)) := Cn.dZ _ _
    have bz2 := Bd.set (i := i) (bz.mono (s' := s + (N - i) * d) (n' := N + N) (by omega) (by omega)) (Nat.le_trans hts (by omega))
    generalize cJ : dZ r (bH (oW i (lead r / lead y)) y) = r2 at *
    generalize bH (oW i (lead r / lead y)) y = pm at *
    generalize lead r / lead y = tt at *
    have aad := pY i tt
    have ajI : (oW i tt).length = i + 1 := by simp [oW]
    have lT := bE ajI
    generalize lead r = lr at *
    generalize lead y = ly at *
    refine W.sr ?_
    simp (disch := omega) [gw]
    refine aA hLr ?_
    simp (disch := omega) [gw]
    refine aA hL ?_
    simp (disch := omega) [gw]
    refine aA hE ?_
    simp (disch := omega) [gw]
    refine W.lx [0, 1, 6, 7, 8, 9] ?_; simp
    refine W.seq ?_
    refine W.sr ?_; simp (disch := omega) [gw]; refine W.lx [0, 1, 6, 7, 8, 49] ?_; simp
    refine W.cond ⟨_, rfl, fun h => ?_, fun h => ?_⟩
    ·cases h
    refine W.skip ?_
    refine W.sr ?_
    simp (disch := omega) [gw, aai, hz]
    refine W.lx [0, 1, 6, 7, 8] ?_; simp
    have e9 : ((i : Int) + 1).toNat = i + 1 := by omega
    refine W.sr ?_; simp (disch := omega) [gw, e9]; refine W.lx [0, 1, 6, 7, 8, 10] ?_; simp
    refine W.row (id := 56) (emap ie (List.replicate (i + 1) 0)) (by simp; exact ⟨rfl, rfl, rfl⟩) (pS _) ?_
    refine W.sr ?_
    simp (disch := omega) [gw, aad]
    refine W.lx [0, 1, 6, 7, 10] ?_; simp
    refine W.freeze 56 (by simp) (fun K hK => ?_)
    simp [lT]
    refine hK _ ?_; clear hK K
    refine W.b8 (fun K hK => ?_)
    simp (disch := omega) [gw]
    refine aA f4 ?_
    simp (disch := omega) [gw]
    refine aA f5 ?_
    simp (disch := omega) [gw]
    exact hK _ ⟨_, aC _ [0, 1, 6, 7], z.set i tt, r2, _, _, rfl, by simp, by simp [hz], wT, bz2, b2, cr2⟩
   ·rw [if_neg ZP] at hE wT
    subst wT
    refine W.sr ?_
    simp (disch := omega) [gw]
    refine aA hLr ?_
    simp (disch := omega) [gw]
    refine aA hL ?_
    simp (disch := omega) [gw]
    refine aA hE ?_
    simp (disch := omega) [gw]
    refine W.lx [0, 1, 6, 7, 8, 9] ?_; simp
    refine W.seq ?_
    refine W.sr ?_; simp (disch := omega) [gw]; refine W.lx [0, 1, 6, 7, 8, 49] ?_; simp
    refine W.cond ⟨_, rfl, fun h => ?_, fun h => ?_⟩
    ·refine W.sr ?_; simp (disch := omega) [gw]; refine W.lx [4, 5] ?_; simp
     refine W.ret ?_
     simp [go, exR, exF]
     rfl
    ·cases h
  rintro _ ⟨z, r, rows, clk, rfl, aai, hz, wT, bz, br, cr⟩
  refine W.b8 (fun K hK => ?_); simp (disch := omega) [gw]
  refine hK _ ⟨i, _, aC _ [0, 1, 6, 7], by omega, v6, z, r, _, _, rfl, by simp [aai], hz, by omega, wT, bz, br, cr⟩
 ·have hj0 : j = 0 := by simp at h; omega
  subst hj0
  simp only [exs] at wT
  rw [← wT]
  have hN0 := hNN 0 (by omega)
  have hzn := iI (PB.of bz (by omega) (by omega))
  have hzz := bE hz
  refine W.exit ?_; simp only [pX, if_true, if_false, reduceIte, Nat.reduceEqDiff]
  refine W.seq ?_
  refine W.sr ?_; simp (disch := omega) [gw]; refine W.lx [6, 68] ?_; simp
  cases r with
  | nil =>
   refine W.cond ⟨_, rfl, fun h => ?_, fun h => ?_⟩
   ·exfalso; simp at h
   refine W.skip ?_
   refine W.sr ?_
   simp (disch := omega) [gw, aai, hzz]
   refine aA hzn ?_
   simp (disch := omega) [gw]
   refine W.lx [4, 5] ?_; simp
   refine W.ret ?_
   simp [go, exR, exF]
  | cons c r =>
   refine W.cond ⟨_, rfl, fun h => ?_, fun h => ?_⟩
   ·refine W.sr ?_; simp (disch := omega) [gw]; refine W.lx [4, 5] ?_; simp
    refine W.ret ?_
    simp [go, exR, exF]
    rfl
   ·exfalso; simp at h
theorem AA {d : Nat} {x : List Int} (h : ∀ c ∈ x, (d : Int) ∣ c) : d ∣ bG x := by
 have key : ∀ (l : List Int) (g : Nat), d ∣ g → (∀ c ∈ l, (d : Int) ∣ c) → d ∣ l.foldl (fun g c => Nat.gcd g c.natAbs) g := by
  intro l
  induction l with
  | nil => intro g hg _; exact hg
  | cons c l ih =>
   intro g hg hl
   rw [List.foldl_cons]
   exact ih _ (Nat.dvd_gcd hg (Int.ofNat_dvd_left.1 (hl c (by simp)))) fun v hv => hl v (by simp [hv])
 exact key x 0 (Nat.dvd_zero d) h
theorem xU {x : List Int} {g : Int} (h : ∀ c ∈ x, g ∣ c) : (x.map (o6 g)).map (· * g) = x := by
 rw [List.map_map]
 refine (List.map_congr_left fun v hv => ?_).trans (List.map_id _)
 have h1 : v % g = 0 := Int.emod_eq_zero_of_dvd (h v hv)
 simp only [Function.comp_apply, o6, id_eq]
 rw [if_pos h1]
 exact Int.ediv_mul_cancel (h v hv)
theorem vC {x y : List Int} {g : Int} (hg : g ≠ 0) (h : y.map (· * g) = x) (e : bG x = g.natAbs) : bG y = 1 := by
 have := j1 g y
 rw [h, e] at this
 exact Nat.eq_of_mul_eq_mul_right (show 0 < g.natAbs by omega) (by omega)
theorem dA (t : Int) (g : Int) (x : List Int) : V t (x.map (· * g)) = V t x * g := by
 have := fL (t := t) g id x
 simp only [id_eq, List.map_id_fun] at this
 exact this
theorem aaj {x y : List Int} (cx : Cn x) (cy : Cn y) (hx : x ≠ []) (hy : y ≠ []) : bG (bH x y) = bG x * bG y := by
 have gx := bX cx hx
 have gy := bX cy hy
 have hp : bG (bH x y) ≠ 0 := bX (Cn.bH _ _) fun h => by
  have := iS cx cy (List.length_pos_iff.2 hx) (List.length_pos_iff.2 hy)
  rw [h] at this
  have h1 := List.length_pos_iff.2 hx
  have h2 := List.length_pos_iff.2 hy
  simp only [List.length_nil] at this
  omega
 obtain ⟨x', CL⟩ : ∃ x' : List Int, x'.map (· * (bG x : Int)) = x := ⟨_, xU (gD x)⟩
 obtain ⟨y', BL⟩ : ∃ y' : List Int, y'.map (· * (bG y : Int)) = y := ⟨_, xU (gD y)⟩
 have px := vC (by omega) CL (by omega)
 have py := vC (by omega) BL (by omega)
 have e : bH x y = (bH x' y').map (· * ((bG x : Int) * bG y)) := by
  rw [← qS (Cn.bH _ _) (Int.mul_ne_zero (by omega) (by omega))]
  refine Cn.ext (Cn.bH _ _) (Cn.aV _ _) fun t => ?_
  have h1 := dA t (bG x) x'
  have h2 := dA t (bG y) y'
  rw [CL] at h1
  rw [BL] at h2
  rw [cM, bW, cM, h1, h2]
  grind
 rw [e, j1] at hp
 rw [e, j1, Int.natAbs_mul]
 have hd : 0 < bG (bH x' y') := Nat.pos_of_mul_pos_right (Nat.pos_of_ne_zero hp)
 have hD := QG _ (bG (bH x' y')) x' y' (Nat.le_refl _) hd (Dv.of (gD _)) (fun d _ hy => Nat.dvd_one.1 (py ▸ AA hy.mem))
 have h1 : bG (bH x' y') = 1 := Nat.dvd_one.1 (px ▸ AA hD.mem)
 rw [h1, Nat.one_mul]
 simp
def j2 (x : List Int) : Int := if lead x < 0 then -(bG x : Int) else bG x
def pZ (x : List Int) : List Int := aM (x.map (o6 (j2 x)))
theorem mG (x : List Int) : (j2 x).natAbs = bG x := by unfold j2; split <;> omega
theorem FQ (x : List Int) : ∀ c ∈ x, j2 x ∣ c := fun c hc => by
 have := gD x c hc
 unfold j2; split
 ·exact Int.neg_dvd.2 this
 ·exact this
theorem FR {x : List Int} (cx : Cn x) (hx : x ≠ []) : (pZ x).map (· * j2 x) = x := by
 have gx := bX cx hx
 have h0 := mG x
 rw [← qS (show Cn (pZ x) from Cn.cut _) (show j2 x ≠ 0 by omega)]
 refine Cn.ext (Cn.aV _ _) cx fun t => ?_
 rw [bW, pZ, cA, ← dA, xU (FQ x)]
theorem UX {x : List Int} (cx : Cn x) (hx : x ≠ []) : aV (pZ x) (j2 x) = x := by
 have gx := bX cx hx
 have h0 := mG x
 rw [qS (show Cn (pZ x) from Cn.cut _) (show j2 x ≠ 0 by omega)]
 exact FR cx hx
theorem aeh {x : List Int} (cx : Cn x) (hx : x ≠ []) : bG (pZ x) = 1 := by
 have gx := bX cx hx
 have h0 := mG x
 exact vC (by omega) (FR cx hx) h0.symm
theorem aak {x : List Int} (cx : Cn x) (hx : x ≠ []) : 0 < lead (pZ x) := by
 have gx := bX cx hx
 have h := FR cx hx
 have hl : (pZ x).length = x.length := by rw [← congrArg List.length h]; simp
 have nS := List.length_pos_iff.2 hx
 have h1 : lead x = lead (pZ x) * j2 x := by
  rw [lead, lead, hl, ← iG, h]
 have qI := cD (x := pZ x) (Cn.cut _) (by omega)
 have hg : (0 : Int) < bG x := by omega
 unfold j2 at h1
 rcases Int.lt_trichotomy (lead (pZ x)) 0 with h2 | h2 | h2
 ·exfalso
  split at h1
  ·rename_i h3
   have := Int.mul_pos (show (0 : Int) < -lead (pZ x) by omega) hg
   rw [Int.mul_neg, ← Int.neg_mul] at h1
   omega
  ·rename_i h3
   have := Int.mul_pos (show (0 : Int) < -lead (pZ x) by omega) hg
   rw [Int.neg_mul] at this
   omega
 ·exact absurd h2 qI
 ·exact h2
theorem rS (a : RP) {s n : Nat} (ha : rD a) (sa : Bd LL s n (a.map gv)) (hs : s < 1099511627774) (hn : n < 1099511627774) :
  aJ env.P 157 [Pg a] (.eP [I (j2 (k8 a)), Po (pZ (k8 a))]) := by
 have hA : Bd LL s n (k8 a) := sa.cut
 have ca : Cn (k8 a) := Cn.cut _
 have na := gJ a ha
 rw [show aM (a.map gv) = k8 a from rfl] at na
 refine aB (E := env) (fun _ => 0) [(0, Pg a)] Tryz.func157 rfl (by kernel_rfl) (by kernel_rfl) (show 1 ≤ 23 by decide) (by simp) ?_
 generalize k8 a = x at *
 refine W.sr ?_; simp (disch := omega) [gw]; refine W.lx [0, 2] ?_; simp
 refine W.sr ?_
 simp (disch := omega) [gw]
 refine aA na ?_
 simp (disch := omega) [gw]
 refine W.lx [0, 2] ?_; simp
 refine W.seq ?_
 refine W.sr ?_; simp (disch := omega) [gw]; refine W.lx [0, 2, 9] ?_; simp
 refine W.cond ⟨_, rfl, fun h => ?_, fun h => ?_⟩
 ·have h : x = [] := by simp at h; exact h
  subst h
  rw [show j2 ([] : List Int) = 0 by decide, show pZ ([] : List Int) = [] from rfl]
  refine W.sr ?_; simp (disch := omega) [gw]; refine W.lx [2, 3] ?_; simp
  refine W.ret ?_
  simp [go]
  exact ⟨rfl, rfl⟩
 have hx : x ≠ [] := by simp at h; exact h
 clear h
 have nS := List.length_pos_iff.2 hx
 have gx := bX ca hx
 have K7 := mG x
 have hC := tT x (PD.of hA hs hn)
 have hL := jZ (PB.of hA (by omega) (by omega)) ca
 have hgs := QQ (s := s) hA.sz ca hx
 have G3 : sz LL (j2 x) ≤ s := by
  unfold j2; split
  ·rw [n5]; exact hgs
  ·exact hgs
 have hO := JM x (j2 x) (PD.of hA hs hn) (by omega) (by omega)
 rw [show aM (x.map (o6 (j2 x))) = pZ x from rfl] at hO
 have hN := agz (x := (bG x : Int)) (by show sz LL _ < _; omega)
 refine W.skip ?_
 refine W.sr ?_
 simp (disch := omega) [gw]
 refine aA hC ?_
 simp (disch := omega) [gw]
 refine W.lx [0, 2, 4] ?_; simp
 refine W.fY (fun σ => ∃ (rows : Pm.Rows) (clk : Nat), σ = ⟨fa [(0, Po x), (2, .ptr 2 0 0 0), (4, .ptr 4 1 0 0)], rows, clk⟩ ∧ rows 2 = some ⟨0, 40, 2, [[.bool false, .nil]]⟩ ∧ rows 4 = some ⟨1, 40, 2, [ie (j2 x)]⟩) ?_ ?_
 ·refine W.gW (fun σ => ∃ (rows : Pm.Rows) (clk : Nat), σ = ⟨fa [(0, Po x), (2, .ptr 2 0 0 0), (4, .ptr 4 1 0 0), (16, .bool (decide (lead x < 0)))], rows, clk⟩ ∧ rows 2 = some ⟨0, 40, 2, [[.bool false, .nil]]⟩ ∧ rows 4 = some ⟨1, 40, 2, [ie (bG x)]⟩) (fun K hK => ?_) ?_
  ·simp (disch := omega) [gw]
   refine aA hL ?_
   simp (disch := omega) [gw]
   refine hK _ _ (aC _ [0, 2, 4, 16]) ⟨_, _, rfl, ?_, ?_⟩ <;> simp [ie]
  rintro _ ⟨rows, clk, rfl, cJ, jP⟩
  refine W.YU (lead x < 0) rfl (fun h => ?_) (fun h => ?_)
  ·rw [j2, if_pos h]
   refine W.b8 (fun K hK => ?_)
   simp (disch := omega) [gw, jP]
   refine aA hN ?_
   simp (disch := omega) [gw, jP]
   exact hK _ ⟨_, aC _ [0, 2, 4], _, _, rfl, by simp [cJ], by simp⟩
  ·rw [j2, if_neg h]
   refine W.skip ?_
   exact ⟨_, aC _ [0, 2, 4], _, _, rfl, cJ, jP⟩
 rintro _ ⟨rows, clk, rfl, cJ, jP⟩
 generalize j2 x = c at *
 generalize pZ x = p at *
 refine W.sd ?_
 simp (disch := omega) [gw, jP]
 refine aA hO ?_
 simp (disch := omega) [gw, cJ, jP]
 refine W.lx [2, 3] ?_; simp
 refine W.ret ?_
 simp [go]
abbrev qd (x : List Int) (D : Int) : List Rat := x.map fun v => cP v D
theorem dY {v D : Int} (h : D ≠ 0) : cP v D = (v : Rat) / (D : Rat) := by rw [cP, if_neg h, Rat.divInt_eq_div]
theorem fG {D : Int} (h : D ≠ 0) : (D : Rat) ≠ 0 := fun h2 => h (by exact_mod_cast h2)
theorem tU {D : Int} (h : D ≠ 0) : cP 0 D = 0 := by rw [dY h]; simp [Rat.div_def]
theorem wV {v D : Int} (h : D ≠ 0) : cP v D = 0 ↔ v = 0 := by
 constructor
 ·intro h2
  rw [dY h] at h2
  have h3 := fG h
  have : (v : Rat) = 0 := by
   have h4 : (v : Rat) / (D : Rat) * D = 0 := by rw [h2]; grind
   rw [Rat.div_mul_cancel h3] at h4
   exact h4
  exact_mod_cast this
 ·rintro rfl; exact tU h
theorem QR {v D l : Int} (h : D ≠ 0) (hl : l ≠ 0) : cP (v * l) (D * l) = cP v D := by
 rw [dY h, dY (Int.mul_ne_zero h hl), Rat.intCast_mul, Rat.intCast_mul]
 have h1 := fG h
 have h2 := fG hl
 grind
theorem aei {v w D : Int} (h : D ≠ 0) : cP v D + cP w D = cP (v + w) D := by
 rw [dY h, dY h, dY h, Rat.intCast_add]
 have h1 := fG h
 grind
theorem QS {v D : Int} (h : D ≠ 0) : cP v D * (-1) = cP (-v) D := by
 rw [dY h, dY h, Rat.intCast_neg]
 have h1 := fG h
 grind
theorem aal {v w D : Int} (h : D ≠ 0) : (w : Rat) * cP v D = cP (w * v) D := by
 rw [dY h, dY h, Rat.intCast_mul]
 have h1 := fG h
 grind
theorem aej {v D l : Int} (h : D ≠ 0) (hl : l ≠ 0) : cP v D / (l : Rat) = cP v (D * l) := by
 rw [dY h, dY (Int.mul_ne_zero h hl), Rat.intCast_mul]
 have h1 := fG h
 have h2 := fG hl
 grind
theorem tV {D : Int} (h : D ≠ 0) : ∀ x : List Int, lV (qd x D) = qd (aM x) D
 | [] => rfl
 | a :: x => by
  have ih := tV h x
  simp only [qd, List.map_cons] at ih ⊢
  rw [lV, ih, aM]
  by_cases h1 : aM x = [] ∧ a = 0
  ·simp [h1, tU h]
  ·rw [if_neg h1, if_neg (by simpa [wV h] using h1)]; simp
theorem FT {D : Int} (h : D ≠ 0) (x : List Int) (k : Nat) : nth (qd x D) k = cP (nth x k) D := xP (f := fun v => cP v D) (tU h) x k
theorem aek {D : Int} (h : D ≠ 0) (x y : List Int) : Z9 (qd x D) (qd y D) = qd (gB x y) D := by
 rw [Z9, gB, ← tV h]
 congr 1
 simp only [qd, List.length_map, List.map_map]
 congr 1
 funext k
 simp only [Function.comp_apply]
 rw [show nth (List.map (fun v => cP v D) x) k = _ from FT h x k, show nth (List.map (fun v => cP v D) y) k = _ from FT h y k, aei h]
theorem ael {D : Int} (h : D ≠ 0) (x : List Int) : jF (qd x D) (-1) = qd (fI x) D := by
 rw [jF, fI, ← tV h]
 congr 1
 simp only [qd, List.map_map]
 congr 1
 funext k
 simp only [Function.comp_apply]
 exact QS h
theorem UY {D : Int} (h : D ≠ 0) (y : List Int) (v : Int) : jF (qs y) (cP v D) = qd (aV y v) D := by
 rw [jF, aV, ← tV h]
 congr 1
 simp only [qd, qs, List.map_map]
 congr 1
 funext k
 simp only [Function.comp_apply]
 exact aal h
theorem NR {D l : Int} (h : D ≠ 0) (hl : l ≠ 0) (x : List Int) : qd (x.map (· * l)) (D * l) = qd x D := by
 simp only [qd, List.map_map]
 congr 1
 funext k
 simp only [Function.comp_apply]
 exact QR h hl
theorem FU (x : List Int) : qd x 1 = qs x := by
 simp only [qd, qs, j8]
theorem sF {v D : Int} {k : Nat} (h : D ≠ 0) (hv : sz 2 v ≤ k) (hD : sz 2 D ≤ k) : ZR k (cP v D) := by
 refine ⟨Nat.le_trans (cC (by decide) ?_) hv, Nat.le_trans (cC (by decide) ?_) hD⟩
 ·rw [n9 _ _ h]
  refine Nat.le_trans (Int.natAbs_ediv_le_natAbs _ _) ?_
  split <;> simp
 ·rw [oA _ _ h]
  refine Nat.le_trans (Int.natAbs_ediv_le_natAbs _ _) ?_
  split <;> simp
theorem NS {x : List Int} {D : Int} {k n : Nat} (h : D ≠ 0) (hx : Bd 2 k n x) (hD : sz 2 D ≤ k) (hk : k ≤ YY) (hn : n < 1099511627776) : UR (qd x D) := ⟨fun q hq => by
 simp only [List.mem_map] at hq
 obtain ⟨v, hv, rfl⟩ := hq
 exact sF h (Nat.le_trans (hx.sz v hv) hk) (Nat.le_trans hD hk), by have := hx.len; simp; omega⟩
structure DS where
 Q : List Int
 r : List Int
 D : Int
def dst (y : List Int) (σ : DS) : DS := ⟨(σ.Q.map (· * lead y)).set (σ.r.length - y.length) (lead σ.r), uS y (lead y) (lead σ.r) (σ.r.length - y.length) σ.r, σ.D * lead y⟩
def UZ (y : List Int) : Nat → DS → DS
 | 0, σ => σ
 | n + 1, σ => if σ.r.length < y.length then σ else UZ y n (dst y σ)
def dmd (x y : List Int) : DS := UZ y (x.length + 1) ⟨List.replicate (iF x y) 0, x, 1⟩
theorem FV {y : List Int} {σ : DS} (hy : 0 < y.length) (h : y.length ≤ σ.r.length) : (dst y σ).r.length < σ.r.length := by
 have h1 := xR (b := y) (r := σ.r) (i := σ.r.length - y.length) hy (by omega)
 rw [show tI y σ.r (σ.r.length - y.length) = lead σ.r from by rw [tI, if_pos (by omega)]] at h1
 show (uS y (lead y) (lead σ.r) (σ.r.length - y.length) σ.r).length < _
 omega
theorem aem {y : List Int} {σ : DS} (h : σ.r.length < y.length) : ∀ n, UZ y n σ = σ
 | 0 => rfl
 | n + 1 => by rw [UZ, if_pos h]
structure sG (x y : List Int) (σ : DS) : Prop where
 v : ∀ t, σ.D * V t x = V t σ.Q * V t y + V t σ.r
 z : ∀ j, j + y.length ≤ σ.r.length → nth σ.Q j = 0
 c : Cn σ.r
 d : σ.D ≠ 0
 q : σ.r.length + 1 ≤ σ.Q.length + y.length ∨ σ.r.length < y.length
theorem sG.step {x y : List Int} {σ : DS} (cy : Cn y) (hy : 0 < y.length) (h : y.length ≤ σ.r.length) (hI : sG x y σ) : sG x y (dst y σ) := by
 have hl := cD cy hy
 have eZ := FV hy h
 have hq := hI.q.resolve_right (by omega)
 have hk : σ.r.length - y.length < (σ.Q.map (· * lead y)).length := by simp; omega
 have h1 := xR (b := y) (r := σ.r) (i := σ.r.length - y.length) hy (by omega)
 rw [show tI y σ.r (σ.r.length - y.length) = lead σ.r from by rw [tI, if_pos (by omega)]] at h1
 refine ⟨fun t => ?_, fun j hj => ?_, Cn.dZ _ _, Int.mul_ne_zero hI.d hl, ?_⟩
 ·have h2 := hI.v t
  have h3 := C4 (b := t) (x := lead σ.r) hk
  have h4 : nth (σ.Q.map (· * lead y)) (σ.r.length - y.length) = 0 := by
   rw [iG, hI.z _ (by omega)]; simp
  show σ.D * lead y * V t x = V t ((σ.Q.map (· * lead y)).set (σ.r.length - y.length) (lead σ.r)) * V t y + V t (uS y (lead y) (lead σ.r) (σ.r.length - y.length) σ.r)
  rw [h3, h4, dA, uS, gR, cM, mC, bW]
  have h5 : σ.D * lead y * V t x = lead y * (σ.D * V t x) := by grind
  rw [h5, h2]; grind
 ·have hj : j + y.length ≤ (uS y (lead y) (lead σ.r) (σ.r.length - y.length) σ.r).length := hj
  show nth ((σ.Q.map (· * lead y)).set (σ.r.length - y.length) (lead σ.r)) j = 0
  rw [fF (by omega), iG, hI.z _ (by omega)]; simp
 ·left
  have : (dst y σ).Q.length = σ.Q.length := by simp [dst]
  omega
theorem sG.UZ {x y : List Int} (cy : Cn y) (hy : 0 < y.length) : ∀ (n : Nat) (σ : DS), σ.r.length < n → sG x y σ → sG x y (UZ y n σ) ∧ (Proofs.YtbbjgncblhfegaaGreat.UZ y n σ).r.length < y.length
 | 0, σ, h, _ => by omega
 | n + 1, σ, h, hI => by
  rw [Proofs.YtbbjgncblhfegaaGreat.UZ]
  split
  ·rename_i h1; exact ⟨hI, h1⟩
  ·rename_i h1
   exact sG.UZ cy hy n _ (by have := FV (σ := σ) hy (by omega); omega) (hI.step cy hy (by omega))
theorem sG.start {x y : List Int} (cx : Cn x) : sG x y ⟨List.replicate (iF x y) 0, x, 1⟩ := by
 refine ⟨fun t => ?_, fun j hj => ?_, cx, show (1 : Int) ≠ 0 by decide, ?_⟩
 ·simp [oQ]
 ·rcases Nat.lt_or_ge j (iF x y) with h | h
  ·rw [cT (by simpa using h)]; simp
  ·rw [fZ (by simpa using h)]; rfl
 ·simp only [iF, List.length_replicate]; omega
theorem aen {x y : List Int} (cx : Cn x) (cy : Cn y) (hy : 0 < y.length) : sG x y (dmd x y) ∧ (dmd x y).r.length < y.length := sG.UZ cy hy _ _ (Nat.lt_succ_self _) (sG.start cx)
@[simp] theorem api {l : List Rat} {i : Nat} {q : Rat} : gN (emap re l) i 0 [aI aF (aR DD q.num.natAbs), .bool (decide (q.num < 0)), aI aF (aR DD q.den), .bool false] = emap re (l.set i q) := xS (n := 4) (fun _ => rfl)
theorem AB (x : List Int) : emap re (qs x) = emap ri x := by simp only [emap, qs, List.map_map, Function.comp_def, eN]
theorem aan (a b n : List Rat) (ha : UR a) (hb : UR b) (hn : jF b (-1) = n) (hn2 : UR n) : aJ env.P 152 [PP a, PP b] (PP (Z9 a n)) := by
 have h1 := JJ b hb
 rw [hn] at h1
 have h2 := aaa a n ha hn2
 refine aB (E := env) (fun _ => 0) [(0, PP a), (1, PP b)] Tryz.func152 rfl (by kernel_rfl) (by kernel_rfl) (show 2 ≤ 9 by decide) (by simp) ?_
 refine W.sr ?_; simp (disch := omega) [gw]; refine W.lx [0, 1] ?_; simp
 refine W.sr ?_
 simp (disch := omega) [gw]
 refine aA h1 ?_
 simp (disch := omega) [gw]
 refine aA h2 ?_
 simp (disch := omega) [gw]
 refine W.lx [4] ?_; simp
 refine W.ret ?_
 simp [go]
def G9 (l : List Rat) : Int := l.foldl (fun d q => (d * q.den).tdiv (Int.gcd d q.den)) 1
def QT (d : Int) (l : List Rat) : Int := l.foldl (fun (g : Int) q => (Int.gcd g ((q.num * d).tdiv q.den) : Int)) 0
theorem aao {l : List Rat} {i : Nat} (h : i < l.length) : G9 (l.take (i + 1)) = (G9 (l.take i) * (nth l i).den).tdiv (Int.gcd (G9 (l.take i)) (nth l i).den) := by
 unfold G9; rw [a8 h, List.foldl_append]; rfl
theorem aap {l : List Rat} {d : Int} {i : Nat} (h : i < l.length) : QT d (l.take (i + 1)) = (Int.gcd (QT d (l.take i)) (((nth l i).num * d).tdiv (nth l i).den) : Int) := by
 unfold QT; rw [a8 h, List.foldl_append]; rfl
theorem aaq (q : Rat) : RI (q.den : Int) = .ag [aI aF (aR DD q.den), .bool false] := by
 simp [show ¬ ((q.den : Int) < 0) by omega]
def NT (l : List Rat) : Rat := if (nth l (l.length - 1)).num < 0 then -(cP (QT (G9 l) l) (G9 l)) else cP (QT (G9 l) l) (G9 l)
def qpr (l : List Rat) : List Rat := jF l (1 / NT l)
theorem p5 (l : List Rat) {k : Nat} (hk : k ≤ YY) (hk1 : 1 ≤ k) (hl : ∀ q ∈ l, ZR k q) (BK : l.length < 1099511627776) (h0 : l ≠ [])
  (hd : ∀ i, sz 2 (G9 (l.take i)) ≤ k) (FK : ∀ i, 0 < G9 (l.take i)) (hg : ∀ i, sz 2 (QT (G9 l) (l.take i)) ≤ k)
  (hc : ZR YY (NT l)) (vA : NT l ≠ 0) (uN : ZR YY (1 / NT l)) :
  aJ env.P 191 [PP l] (.eP [RR (NT l), PP (qpr l)]) := by
 have hkY : k ≤ 137438953472 := hk
 have uO : 0 < l.length := List.length_pos_iff.2 h0
 refine aB (E := env) (fun _ => 0) [(0, PP l)] Tryz.func191 rfl (by kernel_rfl) (by kernel_rfl) (show 1 ≤ 75 by decide) (by simp) ?_
 refine W.sr ?_; simp (disch := omega) [gw]; refine W.lx [0, 2] ?_; simp
 refine W.seq ?_
 refine W.sr ?_; simp (disch := omega) [gw]; refine W.lx [0, 2, 11] ?_; simp
 refine W.cond ⟨_, rfl, fun h => ?_, fun h => ?_⟩
 ·exfalso; simp at h; exact h0 h
 refine W.skip ?_
 refine W.sr ?_
 simp (disch := omega) [gw]
 refine aA (mD 1 (by decide) (by decide)) ?_
 simp (disch := omega) [gw]
 refine W.lx [0, 2, 4] ?_; simp
 refine W.seq ?_
 refine W.sr ?_; simp (disch := omega) [gw]; refine W.lx [0, 2, 4, 15, 16] ?_; simp
 refine W.block ?_
 refine W.a9 (fun n σ => ∃ (i : Nat) (d : Int) (rows : Pm.Rows) (clk : Nat), σ = ⟨fa [(0, PP l), (2, .ptr 2 0 0 0), (4, .ptr 4 1 0 0), (15, .int .i64 l.length), (16, .int .i64 i)], rows, clk⟩ ∧
  rows 2 = some ⟨0, 50, 4, [[.nil, .bool false, .nil, .bool false]]⟩ ∧ rows 4 = some ⟨1, 48, 2, [[aI aF (aR DD d.natAbs), .bool (decide (d < 0))]]⟩ ∧ n = l.length - i ∧ i ≤ l.length ∧ d = G9 (l.take i)) l.length ?_ ?_
 ·exact ⟨_, .refl, 0, 1, _, _, rfl, by simp, by simp, by omega, by omega, by simp [G9]⟩
 rintro n _ ⟨i, d, rows, clk, rfl, cJ, jP, hn, hi, ZP⟩
 refine W.sr ?_; simp (disch := omega) [gw]; refine W.lx [0, 2, 4, 15, 16, 17] ?_; simp
 refine W.seq ?_
 refine W.cond ⟨_, rfl, fun h => ?_, fun h => ?_⟩
 ·have hi : i < l.length := by simp at h; omega
  have hq := hl _ (bR hi)
  have hdi := hd i
  have hdp := FK i
  have hs := aao hi
  rw [← ZP] at hs hdi hdp
  have hsn := hd (i + 1)
  have m1 := dQ d (nth l i).den (by simp only [Z]; omega) (by have := hq.d; simp only [Z]; omega)
  have m2 := z5 d (nth l i).den (by simp only [Y]; omega) (by have := hq.d; simp only [Y]; omega)
  have zm := bU (b := 2) (by decide) hdi hq.d
  have hgp : 0 < Int.gcd d (nth l i).den := Int.gcd_pos_of_ne_zero_left _ (by omega)
  have zg : Y (Int.gcd d (nth l i).den : Int) := z0 (y := d) (by simp only [Y]; omega) (by
   have := Int.le_of_dvd hdp (Int.gcd_dvd_left d ((nth l i).den : Int)); omega)
  have m3 := tQ (d * (nth l i).den) (Int.gcd d (nth l i).den) (by omega) (by simp only [Y]; omega) zg
  rw [← hs] at m3
  rw [aaq] at m1 m2
  generalize (Int.gcd d (nth l i).den : Int) = gg at *
  generalize d * ((nth l i).den : Int) = dd at *
  generalize MB : G9 (l.take (i + 1)) = d2 at *
  generalize U0 : nth l i = q at *
  refine W.skip ?_
  refine W.seq ?_
  refine W.block ?_
  refine W.sr ?_; simp (disch := omega) [gw, U0]; refine W.lx [0, 2, 4, 5, 15, 16] ?_; simp
  refine W.M4 (fun K hK => ?_)
  simp (disch := omega) [gw, jP, U0]
  refine aA m1 ?_
  simp (disch := omega) [gw, jP, U0]
  refine aA m2 ?_
  simp (disch := omega) [gw, jP, U0]
  refine aA m3 ?_
  simp (disch := omega) [gw, jP, U0]
  refine bS (by refine ⟨?_, ?_⟩ <;> kernel_rfl) ?_
  simp (disch := omega) [gw]
  refine W.lw [0, 2, 4, 15, 16] hK ?_; clear hK K; simp
  refine W.b8 (fun K hK => ?_); simp (disch := omega) [gw]
  refine hK _ ⟨l.length - (i + 1), _, aC _ [0, 2, 4, 15, 16], by omega, i + 1, d2, _, _, rfl, by simp [cJ], by simp, by omega, by omega, MB.symm⟩
 have hi : i = l.length := by simp at h; omega
 subst hi
 rw [List.take_length] at ZP
 have XC := hd l.length
 have hdp := FK l.length
 rw [List.take_length, ← ZP] at XC hdp
 rw [← ZP] at hg
 have hqc : NT l = if (nth l (l.length - 1)).num < 0 then -(cP (QT d l) d) else cP (QT d l) d := by rw [ZP]; rfl
 refine W.exit ?_; simp only [pX, if_true, if_false, reduceIte, Nat.reduceEqDiff]
 refine W.sr ?_; simp (disch := omega) [gw]; refine W.lx [0, 2, 4, 6] ?_; simp
 refine W.row (id := 6) (els := [[.nil, .bool false]]) [[aI aF (aR DD 0), .bool false]] (by simp; first | exact ⟨rfl, rfl, rfl⟩ | exact ⟨rfl, rfl, rfl, rfl⟩) ⟨⟨.inr ⟨rfl, rfl⟩, .inl rfl, trivial⟩, trivial⟩ ?_
 refine W.seq ?_
 refine W.sr ?_; simp (disch := omega) [gw]; refine W.lx [0, 2, 4, 6, 36, 37] ?_; simp
 refine W.block ?_
 clear ZP
 refine W.a9 (fun n σ => ∃ (i v6 : Nat) (g : Int) (rows : Pm.Rows) (clk : Nat), σ = ⟨fa [(0, PP l), (2, .ptr 2 0 0 0), (4, .ptr 4 1 0 0), (6, .ptr 6 v6 0 0), (36, .int .i64 l.length), (37, .int .i64 i)], rows, clk⟩ ∧
  rows 2 = some ⟨0, 50, 4, [[.nil, .bool false, .nil, .bool false]]⟩ ∧ rows 4 = some ⟨1, 48, 2, [[aI aF (aR DD d.natAbs), .bool (decide (d < 0))]]⟩ ∧
  rows 6 = some ⟨v6, 48, 2, [[aI aF (aR DD g.natAbs), .bool (decide (g < 0))]]⟩ ∧ n = l.length - i ∧ i ≤ l.length ∧ g = QT d (l.take i)) l.length ?_ ?_
 ·exact ⟨_, .refl, 0, _, 0, _, _, rfl, by simp [cJ], by simp [jP], by simp, by omega, by omega, by simp [QT]⟩
 clear cJ jP rows clk
 rintro n _ ⟨i, v6, g, rows, clk, rfl, cJ, jP, tW, hn, hi, hgv⟩
 refine W.sr ?_; simp (disch := omega) [gw]; refine W.lx [0, 2, 4, 6, 36, 37, 38] ?_; simp
 refine W.seq ?_
 refine W.cond ⟨_, rfl, fun h => ?_, fun h => ?_⟩
 ·have hi : i < l.length := by simp at h; omega
  have hq := hl _ (bR hi)
  have hgi := hg i
  have hs := aap (d := d) hi
  rw [← hgv] at hs hgi
  have m1 := dQ (nth l i).num d (by have := hq.n; simp only [Z]; omega) (by simp only [Z]; omega)
  have zm := bU (b := 2) (by decide) hq.n XC
  have m2 := tQ ((nth l i).num * d) (nth l i).den (by have := (nth l i).den_nz; omega) (by simp only [Y]; omega) (by have := hq.d; simp only [Y]; omega)
  have zq : Y (((nth l i).num * d).tdiv (nth l i).den) := z0 (y := (nth l i).num * d) (by simp only [Y]; omega) (by rw [Int.natAbs_tdiv]; exact Nat.div_le_self _ _)
  have m3 := z5 g (((nth l i).num * d).tdiv (nth l i).den) (by simp only [Y]; omega) zq
  rw [← hs] at m3
  rw [aaq] at m2
  generalize ((nth l i).num * d).tdiv (nth l i).den = nq at *
  generalize (nth l i).num * d = nd at *
  generalize m8 : QT d (l.take (i + 1)) = g2 at *
  generalize U0 : nth l i = q at *
  refine W.skip ?_
  refine W.seq ?_
  refine W.block ?_
  refine W.sr ?_; simp (disch := omega) [gw, U0]; refine W.lx [0, 2, 4, 6, 7, 36, 37] ?_; simp
  refine W.M4 (fun K hK => ?_)
  simp (disch := omega) [gw, jP, tW, U0]
  refine aA m1 ?_
  simp (disch := omega) [gw, jP, tW, U0]
  refine aA m2 ?_
  simp (disch := omega) [gw, jP, tW, U0]
  refine aA m3 ?_
  simp (disch := omega) [gw, jP, tW, U0]
  refine bS (by kernel_rfl) ?_
  simp (disch := omega) [gw]
  refine W.lw [0, 2, 4, 6, 36, 37] hK ?_; clear hK K; simp
  refine W.b8 (fun K hK => ?_); simp (disch := omega) [gw]
  refine hK _ ⟨l.length - (i + 1), _, aC _ [0, 2, 4, 6, 36, 37], by omega, i + 1, v6, g2, _, _, rfl, by simp [cJ], by simp [jP], by simp, by omega, by omega, m8.symm⟩
 have hi : i = l.length := by simp at h; omega
 subst hi
 rw [List.take_length] at hgv
 have hgl := hg l.length
 rw [List.take_length] at hgl
 rw [← hgv] at hgl hqc
 have hMk := jE g d (by simp only [Y]; omega) (by simp only [Y]; omega)
 have hNg := z7 (cP g d)
 have hQ := z9 1 (NT l) ⟨by show sz 2 1 ≤ YY; exact Nat.le_trans (cO (k := 1) (by decide) (by decide)) (by decide), by show sz 2 1 ≤ YY; exact Nat.le_trans (cO (k := 1) (by decide) (by decide)) (by decide)⟩ hc vA
 have hOf := mF 1 1 (by decide) (by decide)
 rw [j8, show (((1 : Int)) : Rat) = 1 by simp] at hOf
 have hSc := oB l (1 / NT l) ⟨fun q hq => ⟨Nat.le_trans (hl q hq).n hk, Nat.le_trans (hl q hq).d hk⟩, BK⟩ uN
 rw [show jF l (1 / NT l) = qpr l from rfl] at hSc
 have e1 : ((l.length : Int) - 1).toNat = l.length - 1 := by omega
 generalize qpr l = pr at *
 generalize gV : (1 : Rat) = one at *
 generalize one / NT l = ic at *
 generalize NT l = cc at *
 generalize hqm : cP g d = c0 at *
 generalize U0 : nth l (l.length - 1) = q at *
 refine W.exit ?_; simp only [pX, if_true, if_false, reduceIte, Nat.reduceEqDiff]
 refine W.sr ?_
 simp (disch := omega) [gw, jP, tW]
 refine aA hMk ?_
 simp (disch := omega) [gw]
 refine W.lx [0, 2, 8] ?_; simp
 refine W.fY (fun σ => ∃ (v8 : Nat) (rows : Pm.Rows) (clk : Nat), σ = ⟨fa [(0, PP l), (2, .ptr 2 0 0 0), (8, .ptr 8 v8 0 0)], rows, clk⟩ ∧ rows 2 = some ⟨0, 50, 4, [[.nil, .bool false, .nil, .bool false]]⟩ ∧ rows 8 = some ⟨v8, 50, 4, [re cc]⟩) ?_ ?_
 ·refine W.sr ?_; simp (disch := omega) [gw, e1, U0]; refine W.lx [0, 2, 8, 66] ?_; simp
  refine W.YU (q.num < 0) rfl (fun h => ?_) (fun h => ?_)
  ·rw [if_pos h] at hqc
   rw [← hqc] at hNg
   refine W.b8 (fun K hK => ?_)
   simp (disch := omega) [gw]
   refine aA hNg ?_
   simp (disch := omega) [gw]
   exact hK _ ⟨_, aC _ [0, 2, 8], _, _, _, rfl, by simp [cJ], by simp⟩
  ·rw [if_neg h] at hqc
   refine W.skip ?_
   exact ⟨_, aC _ [0, 2, 8], _, _, _, rfl, by simp [cJ], by simp [hqc]⟩
 clear cJ jP tW rows clk
 rintro _ ⟨v8, rows, clk, rfl, cJ, xL⟩
 refine W.sd ?_
 simp (disch := omega) [gw, xL]
 refine aA hOf ?_
 simp (disch := omega) [gw, xL]
 refine aA hQ ?_
 simp (disch := omega) [gw, xL]
 refine aA hSc ?_
 simp (disch := omega) [gw, cJ, xL]
 refine W.lx [2, 3] ?_; simp
 refine W.ret ?_
 simp [go]
theorem aeo (x : List Int) (hx : ∀ c ∈ x, Z c) (hl : x.length < 1099511627776) : aJ env.P 22 [PI x] (Po x) := by
 refine aB (E := env) (fun _ => 0) [(0, PI x)] Tryz.func22 rfl (by kernel_rfl) (by kernel_rfl) (show 1 ≤ 21 by decide) (by simp) ?_
 refine W.sr ?_; simp (disch := omega) [gw]; refine W.lx [0] ?_; simp
 refine W.sr ?_; simp (disch := omega) [gw]; refine W.lx [0, 3] ?_; simp
 refine W.nil 3 3 40 2 (by simp) (by decide) (fun K hK => ?_)
 refine W.lw [0, 3] hK ?_; clear hK K; simp
 refine W.seq ?_
 refine W.sr ?_; simp (disch := omega) [gw]; refine W.lx [0, 3, 6, 7] ?_; simp
 refine W.block ?_
 refine W.a9 (fun k σ => ∃ (i ver : Nat) (rows : Pm.Rows) (clk : Nat), σ = ⟨fa [(0, PI x), (3, .own 3 ver 0 i), (6, .int .i64 x.length), (7, .int .i64 i)], rows, clk⟩ ∧ rows 3 = some ⟨ver, 40, 2, emap ie (x.take i)⟩ ∧ k = x.length - i ∧ i ≤ x.length) x.length ?_ ?_
 ·exact ⟨_, .refl, 0, _, _, _, rfl, by simp [emap], by omega, by omega⟩
 rintro k _ ⟨i, ver, rows, clk, rfl, hr, hk, hi⟩
 refine W.sr ?_; simp (disch := omega) [gw]; refine W.lx [0, 3, 6, 7, 8] ?_; simp
 refine W.seq ?_
 refine W.cond ⟨_, rfl, fun h0 => ?_, fun h0 => ?_⟩
 ·have h0 : i < x.length := by simp at h0; omega
  have fA : (x.take i).length = i := by simp; omega
  have hT := FL (nth x i) (hx _ (bR h0))
  refine W.skip ?_
  refine W.seq ?_
  refine W.block ?_
  refine W.sr ?_; simp (disch := omega) [gw]; refine W.lx [0, 3, 4, 6, 7] ?_; simp
  refine W.b8 (fun K hK => ?_)
  simp (disch := omega) [gw]
  refine aA hT ?_
  simp (disch := omega) [gw, hr, fA]
  refine W.lw [0, 3, 6, 7] hK ?_; clear hK K; simp
  refine W.b8 (fun K hK => ?_); simp (disch := omega) [gw]
  refine hK _ ⟨x.length - (i + 1), _, aC _ [0, 3, 6, 7], by omega, i + 1, _, _, _, rfl, ?_, by omega, by omega⟩
  rw [a8 h0]
  simp
 ·have kZ : i = x.length := by simp at h0; omega
  subst kZ
  rw [List.take_length] at hr
  refine W.exit ?_; simp only [pX, if_true, if_false, reduceIte, Nat.reduceEqDiff]
  refine W.sr ?_
  simp (disch := omega) [gw, hr]
  refine W.lx [2] ?_; simp
  refine W.ret ?_
  simp [go, hr]
theorem FW (x : List Int) : G9 (qs x) = 1 := by
 have key : ∀ l : List Int, (qs l).foldl (fun (d : Int) q => (d * q.den).tdiv (Int.gcd d q.den)) 1 = 1 := by
  intro l
  induction l with
  | nil => rfl
  | cons a l ih =>
   simp only [qs, List.map_cons, List.foldl_cons, Rat.den_intCast] at ih ⊢
   exact ih
 exact key x
theorem aar (x : List Int) : QT 1 (qs x) = bG x := by
 have key : ∀ (l : List Int) (g : Nat), (qs l).foldl (fun (g : Int) q => (Int.gcd g ((q.num * 1).tdiv q.den) : Int)) g = (l.foldl (fun g c => Nat.gcd g c.natAbs) g : Nat) := by
  intro l
  induction l with
  | nil => intro g; rfl
  | cons a l ih =>
   intro g
   have := ih (Nat.gcd g a.natAbs)
   simp only [qs, List.map_cons, List.foldl_cons, Rat.den_intCast, Rat.num_intCast] at this ⊢
   rw [← this]
   congr 1
   simp [Int.gcd]
 exact key x 0
theorem FX (x : List Int) (i : Nat) : (qs x).take i = qs (x.take i) := by simp [qs, List.map_take]
theorem AD {x : List Int} (hx : 0 < x.length) : NT (qs x) = (j2 x : Rat) := by
 have e : (nth (qs x) ((qs x).length - 1)).num = lead x := by rw [aab]; simp [lead]
 unfold NT j2
 rw [FW, aar, j8, e]
 split
 ·rw [Rat.intCast_neg]
 ·rfl
theorem ajM {x : List Int} (cx : Cn x) (hx : x ≠ []) : qpr (qs x) = qs (pZ x) := by
 have nS := List.length_pos_iff.2 hx
 have h0 := mG x
 have gx := bX cx hx
 have hp : j2 x ≠ 0 := by omega
 have hc := fG hp
 rw [qpr, AD nS, jF, pZ, ← tR]
 congr 1
 simp only [qs, List.map_map]
 refine List.map_congr_left fun v hv => ?_
 simp only [Function.comp_apply]
 have hd := FQ x v hv
 obtain ⟨w, rfl⟩ := hd
 have : o6 (j2 x) (j2 x * w) = w := by
  unfold o6
  rw [if_pos (Int.mul_emod_right _ _)]
  exact Int.mul_ediv_cancel_left _ hp
 rw [this, Rat.intCast_mul]
 grind
theorem kU {x : List Int} {s : Nat} (hs : ∀ c ∈ x, sz 2 c ≤ s) : sz 2 (bG x : Int) ≤ s := by
 by_cases h : ∃ c ∈ x, c ≠ 0
 ·obtain ⟨c, hc, h0⟩ := h
  refine Nat.le_trans (cC (by decide) ?_) (hs c hc)
  have := Int.le_of_dvd (a := (bG x : Int)) (b := (c.natAbs : Int)) (by omega) (Int.dvd_natAbs.2 (gD x _ hc))
  omega
 ·have h1 : bG x = 0 := by
   have h2 : (0 : Nat) ∣ bG x := AA fun c hc => by
    have : c = 0 := Classical.byContradiction fun h3 => h ⟨c, hc, h3⟩
    rw [this]; exact Int.dvd_refl _
   exact Nat.eq_zero_of_zero_dvd h2
  rw [h1]; show sz 2 0 ≤ s; rw [jC]; omega
theorem AE (x : List Int) {s n : Nat} (hx : Bd 2 s n x) (cx : Cn x) (qQ : 1 ≤ s) (hs : s ≤ YY) (hn : n < 1099511627776) : aJ env.P 191 [PI x] (.eP [.ag (ri (j2 x)), PI (pZ x)]) := by
 have hlx := hx.len
 by_cases h0 : x = []
 ·subst h0
  have hz := nM
  rw [show j2 ([] : List Int) = 0 by decide, show pZ ([] : List Int) = [] from rfl]
  refine aB (E := env) (fun _ => 0) [(0, PI [])] Tryz.func191 rfl (by kernel_rfl) (by kernel_rfl) (show 1 ≤ 75 by decide) (by simp) ?_
  refine W.sr ?_; simp (disch := omega) [gw]; refine W.lx [0, 2] ?_; simp
  refine W.seq ?_
  refine W.sr ?_; simp (disch := omega) [gw]; refine W.lx [0, 2, 11] ?_; simp
  refine W.cond ⟨_, rfl, fun h => ?_, fun h => ?_⟩
  ·refine W.sr ?_
   simp (disch := omega) [gw]
   refine aA hz ?_
   simp (disch := omega) [gw]
   refine W.lx [2, 3] ?_; simp
   refine W.ret ?_
   simp [go]
   all_goals rfl
  ·simp at h
 ·have nS := List.length_pos_iff.2 h0
  have hp := mG x
  have gx := bX cx h0
  have K7 : j2 x ≠ 0 := by omega
  have hgs : ∀ i, sz 2 (bG (x.take i) : Int) ≤ s := fun i => kU fun c hc => hx.sz c (List.mem_of_mem_take hc)
  have wT : sz 2 (j2 x) ≤ s := by
   have := kU hx.sz
   unfold j2; split
   ·rw [n5]; exact this
   ·exact this
  have s1 : sz 2 1 ≤ 1 := cO (by decide) (by decide)
  have zc : ZR YY (j2 x : Rat) := mW (Nat.le_trans wT hs) (by decide)
  have e1 : (1 : Rat) / (j2 x : Rat) = cP 1 (j2 x) := by rw [dY K7]; simp
  have := p5 (qs x) hs qQ (fun q hq => by
   simp only [qs, List.mem_map] at hq
   obtain ⟨c, hc, rfl⟩ := hq
   exact mW (hx.sz c hc) qQ) (by simp; omega) (by simpa [qs] using h0)
   (fun i => by rw [FX, FW]; omega) (fun i => by rw [FX, FW]; decide) (fun i => by rw [FW, FX, aar]; exact hgs i)
   (by rw [AD nS]; exact zc) (by rw [AD nS]; exact fG K7) (by rw [AD nS, e1]; exact sF K7 (by show sz 2 1 ≤ 137438953472; omega) (Nat.le_trans wT hs))
  rw [AD nS, ajM cx h0, oT, oT, RR, eN] at this
  exact this
theorem U1 {D a b : Nat} (hD : 0 < D) (ha : a ∣ D) (hb : b ∣ D) : Nat.lcm (D / a) (D / b) = D / Nat.gcd a b := by
 have ha0 : 0 < a := Nat.pos_of_dvd_of_pos ha hD
 have hb0 : 0 < b := Nat.pos_of_dvd_of_pos hb hD
 have hg : 0 < Nat.gcd a b := Nat.gcd_pos_of_pos_left _ ha0
 obtain ⟨a', b', hc, ea, eb⟩ := Nat.exists_coprime a b
 generalize Nat.gcd a b = g at *
 obtain ⟨p, hp⟩ := ha
 obtain ⟨q, hq⟩ := hb
 have h1 : a' * p = b' * q := by
  have : g * (a' * p) = g * (b' * q) := by rw [ea] at hp; rw [eb] at hq; grind
  exact Nat.eq_of_mul_eq_mul_left hg this
 have h2 : a' ∣ q := hc.dvd_of_dvd_mul_left (by rw [← h1]; exact Nat.dvd_mul_right _ _)
 obtain ⟨m, rfl⟩ := h2
 have aup : 0 < a' := by
  rcases Nat.eq_zero_or_pos a' with h | h
  ·rw [h] at ea; omega
  ·exact h
 have h3 : p = b' * m := by
  have : a' * p = a' * (b' * m) := by rw [h1]; grind
  exact Nat.eq_of_mul_eq_mul_left aup this
 subst h3
 have e1 : D / a = b' * m := by rw [hp]; exact Nat.mul_div_cancel_left _ ha0
 have e2 : D / b = a' * m := by rw [hq]; exact Nat.mul_div_cancel_left _ hb0
 have e3 : D / g = a' * b' * m := by
  rw [hp, ea, show a' * g * (b' * m) = g * (a' * b' * m) by grind]
  exact Nat.mul_div_cancel_left _ hg
 rw [e1, e2, e3, Nat.lcm_mul_right, Nat.lcm_comm, Nat.lcm, show a'.gcd b' = 1 from hc, Nat.div_one]
theorem aas (n : Nat) (q : Rat) : ((n : Int) * q.den).tdiv (Int.gcd n q.den) = (Nat.lcm n q.den : Nat) := by
 have : Int.gcd (n : Int) (q.den : Int) = Nat.gcd n q.den := rfl
 rw [this, ← Int.natCast_mul, ← Int.ofNat_tdiv]
 rfl
theorem wW {v : Int} {D : Nat} (hD : 0 < D) : (cP v D).den = D / Nat.gcd D v.natAbs := by
 have h := oA v D (by omega)
 have h2 : ¬ (D : Int) < 0 := by omega
 simp only [h2, if_false] at h
 have : Int.gcd v (D : Int) = Nat.gcd D v.natAbs := by rw [Int.gcd, Nat.gcd_comm]; rfl
 rw [this] at h
 exact_mod_cast h
theorem wX {v : Int} {D : Nat} (hD : 0 < D) : (cP v D).num = v / (Nat.gcd D v.natAbs : Nat) := by
 have h := n9 v D (by omega)
 have h2 : ¬ (D : Int) < 0 := by omega
 simp only [h2, if_false] at h
 have : Int.gcd v (D : Int) = Nat.gcd D v.natAbs := by rw [Int.gcd, Nat.gcd_comm]; rfl
 rw [this] at h
 exact h
def WE (D : Nat) (x : List Int) : Nat := Nat.gcd D (bG x)
theorem FY {D : Nat} (hD : 0 < D) (x : List Int) : G9 (qd x D) = (D / WE D x : Nat) := by
 have key : ∀ (l : List Int) (g : Nat), g ∣ D → (qd l D).foldl (fun (d : Int) q => (d * q.den).tdiv (Int.gcd d q.den)) (D / g : Nat) = (D / (l.foldl (fun g c => Nat.gcd g c.natAbs) g) : Nat) := by
  intro l
  induction l with
  | nil => intro g _; rfl
  | cons a l ih =>
   intro g hg
   have h1 := ih (Nat.gcd g a.natAbs) (Nat.dvd_trans (Nat.gcd_dvd_left _ _) hg)
   simp only [qd, List.map_cons, List.foldl_cons] at h1 ⊢
   rw [aas, wW hD, U1 hD hg (Nat.gcd_dvd_left _ _)]
   rw [show Nat.gcd g (Nat.gcd D a.natAbs) = Nat.gcd g a.natAbs by rw [← Nat.gcd_assoc, Nat.gcd_eq_left hg]]
   exact h1
 have h2 : ∀ (l : List Int) (g : Nat), l.foldl (fun g c => Nat.gcd g c.natAbs) g = Nat.gcd g (bG l) := by
  intro l
  unfold bG
  induction l with
  | nil => intro g; simp
  | cons a l ih =>
   intro g
   simp only [List.foldl_cons]
   rw [ih, ih (Nat.gcd 0 a.natAbs), Nat.gcd_zero_left, Nat.gcd_assoc]
 have h3 := key x D (Nat.dvd_refl _)
 rw [Nat.div_self hD, h2] at h3
 exact h3
theorem aat {D : Nat} (hD : 0 < D) (x : List Int) {G : Nat} (hG : G ∣ D) (hx : ∀ c ∈ x, (G : Int) ∣ c) : QT (D / G : Nat) (qd x D) = (bG x / G : Nat) := by
 have hG0 : 0 < G := Nat.pos_of_dvd_of_pos hG hD
 have key : ∀ (l : List Int) (g : Nat), (∀ c ∈ l, (G : Int) ∣ c) → G ∣ g → (qd l D).foldl (fun (g : Int) q => (Int.gcd g ((q.num * ((D / G : Nat) : Int)).tdiv q.den) : Int)) (g / G : Nat) = ((l.foldl (fun g c => Nat.gcd g c.natAbs) g) / G : Nat) := by
  intro l
  induction l with
  | nil => intro g _ _; rfl
  | cons a l ih =>
   intro g hl hg
   have ha : G ∣ a.natAbs := Int.ofNat_dvd_left.1 (hl a (by simp))
   have h1 := ih (Nat.gcd g a.natAbs) (fun c hc => hl c (by simp [hc])) (Nat.dvd_gcd hg ha)
   simp only [qd, List.map_cons, List.foldl_cons] at h1 ⊢
   have e : ((cP a D).num * ((D / G : Nat) : Int)).tdiv (cP a D).den = a / (G : Int) := by
    rw [wX hD, wW hD]
    have FK : Nat.gcd D a.natAbs ∣ D := Nat.gcd_dvd_left _ _
    have MB : Nat.gcd D a.natAbs ∣ a.natAbs := Nat.gcd_dvd_right _ _
    have hgp : 0 < Nat.gcd D a.natAbs := Nat.gcd_pos_of_pos_left _ hD
    generalize Nat.gcd D a.natAbs = k at *
    obtain ⟨m, hm⟩ := FK
    obtain ⟨n, hn⟩ : (k : Int) ∣ a := Int.ofNat_dvd_left.2 MB
    obtain ⟨p, hp⟩ := hG
    obtain ⟨r, hr⟩ := hl a (by simp)
    have K9 : 0 < m := by
     rcases Nat.eq_zero_or_pos m with h | h
     ·rw [h] at hm; omega
     ·exact h
    rw [show a / (k : Int) = n by rw [hn]; exact Int.mul_ediv_cancel_left _ (by omega), show D / G = p by rw [hp]; exact Nat.mul_div_cancel_left _ hG0, show D / k = m by rw [hm]; exact Nat.mul_div_cancel_left _ hgp,
     show a / (G : Int) = r by rw [hr]; exact Int.mul_ediv_cancel_left _ (by omega)]
    have e2 : n * (p : Int) = m * r := by
     have hDI : (k : Int) * m = G * p := by exact_mod_cast hm.symm.trans hp
     have hk : (k : Int) * n = G * r := hn.symm.trans hr
     have wQ : (k : Int) ≠ 0 := by omega
     have hG1 : (G : Int) ≠ 0 := by omega
     have : (k : Int) * G * (n * p) = k * G * (m * r) := by
      have e3 : (k : Int) * G * (n * p) = (k * n) * (G * p) := by grind
      rw [e3, hk, ← hDI]; grind
     exact Int.eq_of_mul_eq_mul_left (Int.mul_ne_zero wQ hG1) this
    rw [e2]
    exact Int.mul_tdiv_cancel_left _ (by omega)
   rw [e, show Int.gcd ((g / G : Nat) : Int) (a / (G : Int)) = Nat.gcd g a.natAbs / G from ?_]
   ·exact h1
   ·rw [Int.gcd, Int.natAbs_natCast, ← Nat.gcd_div hg ha]
    congr 1
    obtain ⟨r, hr⟩ := hl a (by simp)
    rw [hr, Int.mul_ediv_cancel_left _ (show (G : Int) ≠ 0 by omega), Int.natAbs_mul, Int.natAbs_natCast, Nat.mul_div_cancel_left _ hG0]
 have := key x 0 hx (Nat.dvd_zero _)
 rw [Nat.zero_div] at this
 exact this
theorem tX (D : Nat) (x : List Int) : WE D x ∣ D := Nat.gcd_dvd_left _ _
theorem QU {D : Nat} (hD : 0 < D) (x : List Int) : 0 < WE D x := Nat.gcd_pos_of_pos_left _ hD
theorem QV (D : Nat) (x : List Int) : ∀ c ∈ x, ((WE D x : Nat) : Int) ∣ c := fun c hc => Int.dvd_trans (Int.ofNat_dvd.2 (Nat.gcd_dvd_right _ _)) (gD x c hc)
theorem wY {v : Int} {D : Nat} (hD : 0 < D) : (cP v D).num < 0 ↔ v < 0 := by
 rw [wX hD]
 have hg : 0 < Nat.gcd D v.natAbs := Nat.gcd_pos_of_pos_left _ hD
 obtain ⟨n, hn⟩ : ((Nat.gcd D v.natAbs : Nat) : Int) ∣ v := Int.ofNat_dvd_left.2 (Nat.gcd_dvd_right _ _)
 generalize Nat.gcd D v.natAbs = g at *
 rw [hn, Int.mul_ediv_cancel_left _ (show (g : Int) ≠ 0 by omega)]
 constructor
 ·intro h; exact Int.mul_neg_of_pos_of_neg (by omega) h
 ·intro h
  rcases Int.lt_or_le n 0 with h1 | h1
  ·exact h1
  ·have := Int.mul_nonneg (show (0 : Int) ≤ g by omega) h1
   omega
theorem aau {D : Nat} (hD : 0 < D) {x : List Int} (hx : 0 < x.length) : NT (qd x D) = cP (j2 x) D := by
 have uU : (D : Int) ≠ 0 := by omega
 have e : (nth (qd x D) ((qd x D).length - 1)).num < 0 ↔ lead x < 0 := by
  rw [FT uU, wY hD]; simp [lead]
 have hG := QU hD x
 have e2 : cP (QT (G9 (qd x D)) (qd x D)) (G9 (qd x D)) = cP (bG x) D := by
  rw [FY hD, aat hD x (tX D x) (QV D x)]
  have h1 : D / WE D x * WE D x = D := Nat.div_mul_cancel (tX D x)
  have h2 : bG x / WE D x * WE D x = bG x := Nat.div_mul_cancel (Nat.gcd_dvd_right _ _)
  have h3 : 0 < D / WE D x := Nat.div_pos (Nat.le_of_dvd hD (tX D x)) hG
  have h4 := QR (v := (bG x / WE D x : Nat)) (D := (D / WE D x : Nat)) (l := (WE D x : Nat)) (by omega) (by omega)
  rw [← Int.natCast_mul, ← Int.natCast_mul, h1, h2] at h4
  exact h4.symm
 unfold NT j2
 rw [e2]
 by_cases h : lead x < 0
 ·rw [if_pos (e.2 h), if_pos h, ← QS uU]; grind
 ·rw [if_neg (fun h2 => h (e.1 h2)), if_neg h]
theorem QW {v D : Int} (hD : D ≠ 0) (hv : v ≠ 0) : 1 / cP v D = cP D v := by
 rw [dY hD, dY hv]
 have h1 := fG hD
 have h2 := fG hv
 grind
theorem NU {x : List Int} (cx : Cn x) (hx : x ≠ []) : j2 x ≠ 0 := by
 have h0 := mG x
 have gx := bX cx hx
 omega
theorem ajO {D : Nat} (hD : 0 < D) {x : List Int} (cx : Cn x) (hx : x ≠ []) : qpr (qd x D) = qs (pZ x) := by
 have nS := List.length_pos_iff.2 hx
 have uU : (D : Int) ≠ 0 := by omega
 have hp := NU cx hx
 have hc := fG hp
 have hDc := fG uU
 rw [qpr, aau hD nS, QW uU hp, jF, pZ, ← tR]
 congr 1
 simp only [qd, qs, List.map_map]
 refine List.map_congr_left fun v hv => ?_
 simp only [Function.comp_apply]
 obtain ⟨w, rfl⟩ := FQ x v hv
 have : o6 (j2 x) (j2 x * w) = w := by
  unfold o6
  rw [if_pos (Int.mul_emod_right _ _)]
  exact Int.mul_ediv_cancel_left _ hp
 rw [this, dY uU, dY hp, Rat.intCast_mul]
 grind
theorem JT (x : List Int) : iZ x = if lead x < 0 then fI (pZ x) else pZ x := by
 unfold pZ j2
 split
 ·have e : ∀ v, o6 (-(bG x : Int)) v = - o6 (bG x) v := fun v => by
   unfold o6
   rw [Int.emod_neg, Int.ediv_neg]
   split <;> simp
  refine Cn.ext (Cn.cut _) (Cn.fI _) fun t => ?_
  rw [zF, cA, iZ, cA]
  have h1 := fL (t := t) (-1) (o6 (bG x)) x
  have h2 : (x.map fun v => o6 (bG x) v * -1) = x.map (o6 (-(bG x : Int))) := List.map_congr_left fun v _ => by rw [e]; omega
  rw [h2] at h1
  rw [h1]; omega
 ·rfl
theorem NV (x : List Int) (D : Nat) (hD : 0 < D) {s n : Nat} (hx : Bd 2 s n x) (sD : sz 2 D ≤ s) (cx : Cn x) (h0 : x ≠ []) (qQ : 1 ≤ s) (hs : s ≤ YY) (hn : n < 1099511627776) :
  aJ env.P 191 [PP (qd x D)] (.eP [RR (cP (j2 x) D), PI (pZ x)]) := by
 have uU : (D : Int) ≠ 0 := by omega
 have nS := List.length_pos_iff.2 h0
 have hp := NU cx h0
 have hlen := hx.len
 have sdiv : ∀ (a b : Nat), sz 2 (a : Int) ≤ s → sz 2 ((a / b : Nat) : Int) ≤ s := fun a b h => Nat.le_trans (cC (by decide) (by rw [Int.natAbs_natCast, Int.natAbs_natCast]; exact Nat.div_le_self a b)) h
 have spc : sz 2 (j2 x) ≤ s := by
  have := kU hx.sz
  refine Nat.le_trans (cC (by decide) (Nat.le_of_eq ?_)) this
  rw [mG]; rfl
 have tk : ∀ i, (qd x D).take i = qd (x.take i) D := fun i => by simp [qd, List.map_take]
 have hc := aau hD nS
 have h1 := p5 (qd x D) (k := s) hs qQ (fun q hq => by
   simp only [List.mem_map] at hq
   obtain ⟨v, hv, rfl⟩ := hq
   exact sF uU (hx.sz v hv) sD) (by simp; omega) (by simpa using h0)
  (fun i => by rw [tk, FY hD]; exact sdiv _ _ sD)
  (fun i => by
   rw [tk, FY hD]
   have := Nat.div_pos (Nat.le_of_dvd hD (tX D (x.take i))) (QU hD _)
   omega)
  (fun i => by
   rw [tk, FY hD, aat hD (x.take i) (tX D x) (fun c hc => QV D x c (List.mem_of_mem_take hc))]
   exact sdiv _ _ (kU fun c hc => hx.sz c (List.mem_of_mem_take hc)))
  (by rw [hc]; exact sF uU (Nat.le_trans spc hs) (Nat.le_trans sD hs))
  (by rw [hc]; exact fun h => hp ((wV uU).1 h))
  (by rw [hc, QW uU hp]; exact sF hp (Nat.le_trans sD hs) (Nat.le_trans spc hs))
 rw [hc, ajO hD cx h0, oT] at h1
 exact h1
theorem aav {x : List Int} {s n : Nat} (hx : Bd 2 s n x) : Bd 2 s n (pZ x) := Bd.cut ⟨by simpa using hx.len, fun c hc => by
 simp only [List.mem_map] at hc
 obtain ⟨v, hv, rfl⟩ := hc
 refine Nat.le_trans (cC (by decide) ?_) (hx.sz v hv)
 unfold o6
 split
 ·exact Int.natAbs_ediv_le_natAbs _ _
 ·simp⟩
theorem JU (x : List Int) (D : Nat) (hD : 0 < D) {s n : Nat} (hx : Bd 2 s n x) (sD : sz 2 D ≤ s) (cx : Cn x) (qQ : 1 ≤ s) (hs : s ≤ YY) (hn : n < 1099511627776) :
  aJ env.P 124 [PP (qd x D)] (PI (iZ x)) := by
 have uU : (D : Int) ≠ 0 := by omega
 have bp := aav hx
 have hN := DK (pZ x) (bp.mono hs (by omega))
 rw [JT]
 have hP : ∃ q : Rat, aJ env.P 191 [PP (qd x D)] (.eP [RR q, PI (pZ x)]) ∧ (q.num < 0 ↔ lead x < 0) := by
  by_cases h0 : x = []
  ·subst h0
   refine ⟨(j2 [] : Int), ?_, ?_⟩
   ·have := AE [] hx cx qQ hs hn
    rw [RR, eN]
    exact this
   ·rw [show j2 ([] : List Int) = 0 by decide]; decide
  ·refine ⟨_, NV x D hD hx sD cx h0 qQ hs hn, ?_⟩
   rw [wY hD]
   have gx := bX cx h0
   unfold j2
   split <;> omega
 obtain ⟨q, hP, hq⟩ := hP
 generalize pZ x = y at *
 generalize qd x D = l at *
 refine aB (E := env) (fun _ => 0) [(0, PP l)] Tryz.func124 rfl (by kernel_rfl) (by kernel_rfl) (show 1 ≤ 16 by decide) (by simp) ?_
 refine W.sr ?_; simp (disch := omega) [gw]; refine W.lx [0] ?_; simp
 refine W.sr ?_
 simp (disch := omega) [gw]
 refine aA hP ?_
 simp (disch := omega) [gw]
 refine W.lx [3, 4] ?_; simp
 refine W.seq ?_
 refine W.sr ?_; simp (disch := omega) [gw]; refine W.lx [4, 12] ?_; simp
 refine W.cond ⟨_, rfl, fun h => ?_, fun h => ?_⟩
 ·simp at h
  rw [if_pos (hq.1 h)]
  refine W.sr ?_
  simp (disch := omega) [gw]
  refine aA hN ?_
  simp (disch := omega) [gw]
  refine W.lx [2] ?_; simp
  refine W.ret ?_
  simp [go]
 ·have h : ¬ q.num < 0 := by simpa using h
  rw [if_neg (fun h2 => h (hq.2 h2))]
  refine W.skip ?_
  refine W.sr ?_; simp (disch := omega) [gw]; refine W.lx [2] ?_; simp
  refine W.ret ?_
  simp [go]
theorem JV (x y : List Int) {s s' N : Nat} (hx : Bd 2 s N x) (hy : Bd 2 s' N y) (cx : Cn x) (cy : Cn y) (NB : 0 < y.length) (hs : 1 ≤ s) (hB : s + (N + 1) * (s' + N + 2) + s' + N + N + 10 < 137438953472) :
  aJ env.P 172 [PP (qs x), PP (qs y)] (.eP [PP (qd (aM (dmd x y).Q) (dmd x y).D), PP (qd (dmd x y).r (dmd x y).D)]) := by
 have hNx := hx.len
 have hNy := hy.len
 have hl := cD cy NB
 have hls := eT hy
 have hM : x.length + 1 ≤ N + 1 := by omega
 refine aB (E := env) (fun id => if id = 17 then 2 else 0) [(0, PP (qs x)), (1, PP (qs y))] Tryz.func172 rfl (by kernel_rfl) (by kernel_rfl) (show 2 ≤ 84 by decide) (by simp) ?_
 obtain ⟨R0, HQ⟩ : ∃ R0, R0 = UZ y (x.length + 1) ⟨List.replicate (iF x y) 0, x, 1⟩ := ⟨_, rfl⟩
 rw [show dmd x y = R0 from HQ.symm]
 have hkN : iF x y ≤ N := by unfold iF; omega
 have hkk : (if (x.length : Int) - (y.length : Int) + 1 < 0 then 0 else (x.length : Int) - (y.length : Int) + 1) = (iF x y : Int) := by unfold iF; split <;> omega
 have hI0 : sG x y ⟨List.replicate (iF x y) 0, x, 1⟩ := sG.start cx
 generalize wQ : iF x y = k0 at *
 obtain ⟨a0, ha0⟩ : ∃ a0, a0 = qs x := ⟨_, rfl⟩
 obtain ⟨yq, hyq⟩ : ∃ yq, yq = qs y := ⟨_, rfl⟩
 have la0 : a0.length = x.length := by rw [ha0]; simp
 have lyq : yq.length = y.length := by rw [hyq]; simp
 rw [← ha0, ← hyq]
 refine W.sr ?_; simp (disch := omega) [gw]; refine W.lx [0, 1] ?_; simp
 refine W.sr ?_
 simp (disch := omega) [gw, la0, lyq, hkk]
 refine W.lx [0, 1, 6] ?_; simp
 refine W.seq ?_
 refine W.sr ?_; simp (disch := omega) [gw]; refine W.lx [0, 1, 6, 21, 22] ?_; simp
 refine W.block ?_
 refine W.a9 (fun k σ => ∃ (i ver : Nat) (els : List (List PV)) (rows : Pm.Rows) (clk : Nat), σ = ⟨fa [(0, PP a0), (1, PP yq), (6, .own 19 ver 0 k0), (21, .int .i64 k0), (22, .int .i64 i)], rows, clk⟩ ∧
  rows 19 = some ⟨ver, 50, 4, els⟩ ∧ els.length = k0 ∧ (∀ e ∈ els, e.length = 4) ∧ els.take i = emap ri (List.replicate i 0) ∧ k = k0 - i ∧ i ≤ k0) k0 ?_ ?_
 ·exact ⟨_, .refl, 0, _, List.replicate k0 [.nil, .bool false, .nil, .bool false], _, _, rfl, by simp, by simp, by simp, by simp [emap], by omega, by omega⟩
 rintro k _ ⟨i, ver, els, rows, clk, rfl, hr, kY, JL, oX, hk, hi⟩
 have M9 : bC 4 els = True := by simp only [bC, eq_iff_iff, iff_true]; exact JL
 refine W.sr ?_; simp (disch := omega) [gw]; refine W.lx [0, 1, 6, 21, 22, 23] ?_; simp
 refine W.seq ?_
 refine W.cond ⟨_, rfl, fun h => ?_, fun h => ?_⟩
 ·have h : i < k0 := by simp at h; omega
  refine W.skip ?_
  refine W.seq ?_
  refine W.block ?_
  refine W.sr ?_; simp (disch := omega) [gw]; refine W.lx [0, 1, 6, 7, 21, 22] ?_; simp
  refine W.b8 (fun K hK => ?_)
  simp (disch := omega) [gw]
  refine aA nM ?_
  have sE : i < els.length := by omega
  have hE : rQ els i 4 = True := by
   simp only [eq_iff_iff, iff_true]
   exact ⟨els[i], List.getElem?_eq_getElem sE, by rw [JL _ (List.getElem_mem sE)]; omega⟩
  have hS : gN els i 0 [aI aF (aR DD 0), .bool false, aI aF (aR DD 1), .bool false] = els.set i (ri 0) := by
   have h4 := JL _ (List.getElem_mem sE)
   rw [gN, List.getElem?_eq_getElem sE]
   simp [List.drop_of_length_le, h4]
  simp (disch := omega) [gw, hr, hE, hS]
  refine W.lw [0, 1, 6, 21, 22] hK ?_; clear hK K; simp
  refine W.b8 (fun K hK => ?_); simp (disch := omega) [gw]
  refine hK _ ⟨k0 - (i + 1), _, aC _ [0, 1, 6, 21, 22], by omega, i + 1, ver, els.set i (ri 0), _, _, rfl, by simp, by simpa using kY, fun e he => ?_, ?_, by omega, by omega⟩
  ·rcases List.mem_or_eq_of_mem_set he with h1 | h1
   ·exact JL e h1
   ·rw [h1]; rfl
  ·rw [kF oX (by omega), List.replicate_succ']
   simp [emap]
 have h : i = k0 := by simp at h; omega
 subst h
 have rA : els = emap re (qd (List.replicate i 0) 1) := by rw [FU, AB, ← oX, bE kY]
 subst rA
 rw [show a0 = qd x 1 by rw [ha0, FU]]
 clear oX JL kY M9 hk hi hkk ha0 la0 a0
 refine W.exit ?_; simp only [pX, if_true, if_false, reduceIte, Nat.reduceEqDiff]
 refine W.seq ?_
 refine W.block ?_
 generalize hdd : s' + N + 2 = d at *
 have hNN : ∀ j, (x.length + 1 - j) * d ≤ (N + 1) * d := fun j => Nat.mul_le_mul_right _ (by omega)
 refine W.a9 (fun n σ => ∃ (Q r : List Int) (D : Int) (v6 : Nat) (rows : Pm.Rows) (clk : Nat), σ = ⟨fa [(0, PP (qd r D)), (1, PP yq), (6, .own 19 v6 0 i)], rows, clk⟩ ∧
  rows 19 = some ⟨v6, 50, 4, emap re (qd Q D)⟩ ∧ Q.length = i ∧ sG x y ⟨Q, r, D⟩ ∧ r.length < n ∧ n ≤ x.length + 1 ∧ UZ y n ⟨Q, r, D⟩ = R0 ∧ Bd 2 (s + (x.length + 1 - n) * d) N r ∧ sz 2 D ≤ s + (x.length + 1 - n) * d) (x.length + 1) ?_ ?_
 ·exact ⟨_, aC _ [0, 1, 6], _, x, 1, _, _, _, rfl, hr, by simp, hI0, by omega, by omega, HQ.symm, hx.mono (by omega) (by omega), Nat.le_trans (cO (k := 1) (by decide) (by decide)) (by omega)⟩
 clear hr rows clk ver
 rintro n _ ⟨Q, r, D, v6, rows, clk, rfl, hr, hQ, hI, hrn, hnM, hd, br, bD⟩
 have hD : D ≠ 0 := hI.d
 have UC := hNN n
 obtain ⟨a, ha⟩ : ∃ a, a = qd r D := ⟨_, rfl⟩
 have la : a.length = r.length := by rw [ha]; simp
 rw [← ha]
 refine W.seq ?_
 refine W.sr ?_
 simp (disch := omega) [gw, la, lyq]
 refine W.lx [0, 1, 6, 34] ?_; simp
 refine W.cond ⟨_, rfl, fun h => ?_, fun h => ?_⟩
 ·have h : y.length ≤ r.length := by simp at h; omega
  obtain ⟨n, rfl⟩ : ∃ m, n = m + 1 := ⟨n - 1, by omega⟩
  obtain ⟨k, hk⟩ : ∃ k, k = r.length - y.length := ⟨_, rfl⟩
  have hkI : (r.length : Int) - (y.length : Int) = k := by omega
  have hki : k < i := by have := hI.q.resolve_right (show ¬ r.length < y.length by omega); simp only at this; omega
  have hI2 := hI.step cy NB h
  have ZK := FV (σ := ⟨Q, r, D⟩) NB h
  rw [UZ, if_neg (show ¬ r.length < y.length by omega)] at hd
  simp only [dst, ← hk] at hI2 ZK hd
  have hT : s + (x.length + 1 - n) * d = s + (x.length + 1 - (n + 1)) * d + d := by
   rw [show x.length + 1 - n = (x.length + 1 - (n + 1)) + 1 by omega, Nat.add_mul, Nat.one_mul]; omega
  have hn3 := hNN n
  generalize hU : s + (x.length + 1 - (n + 1)) * d = U at *
  have hlr := eT br
  have hNr := br.len
  have B4 : D * lead y ≠ 0 := Int.mul_ne_zero hD hl
  have zD2 : sz 2 (D * lead y) ≤ U + s' := bU (by decide) bD hls
  have hp : nth a (r.length - 1) = cP (lead r) D := by rw [ha, FT hD]; rfl
  have LD : nth yq (y.length - 1) = (lead y : Rat) := by rw [hyq, aab]; rfl
  have apn := z9 (cP (lead r) D) (lead y : Rat) (sF hD (Nat.le_trans hlr (by show U ≤ 137438953472; omega)) (Nat.le_trans bD (by show U ≤ 137438953472; omega))) (mW (Nat.le_trans hls (by show s' ≤ 137438953472; omega)) (by decide)) (fG hl)
  rw [aej hD hl] at apn
  have hSc := oB yq (cP (lead r) (D * lead y)) (by rw [hyq]; exact UR.qs (fun c hc => Nat.le_trans (hy.sz c hc) (by show s' ≤ 137438953472; omega)) (by omega)) (sF B4 (Nat.le_trans hlr (by show U ≤ 137438953472; omega)) (Nat.le_trans zD2 (by show U + s' ≤ 137438953472; omega)))
  rw [hyq, UY B4, ← hyq] at hSc
  have bsc : Bd 2 (U + s') N (aV y (lead r)) := (hy.aV (by decide) hlr).mono (by omega) (by omega)
  have bw : Bd 2 (U + s') N (List.replicate k 0 ++ aV y (lead r)) := ⟨by have := n7 y (lead r); simp; omega, fun c hc => by
   rcases List.mem_append.1 hc with h1 | h1
   ·rw [(List.mem_replicate.1 h1).2, jC]; omega
   ·exact bsc.sz c h1⟩
  have brl : Bd 2 (U + s') N (r.map (· * lead y)) := ⟨by simpa using br.len, fun c hc => by
   simp only [List.mem_map] at hc
   obtain ⟨v, hv, rfl⟩ := hc
   exact bU (by decide) (br.sz v hv) hls⟩
  have hSu := aan (qd (r.map (· * lead y)) (D * lead y)) (qd (List.replicate k 0 ++ aV y (lead r)) (D * lead y)) _
   (NS B4 brl zD2 (by show U + s' ≤ 137438953472; omega) (by omega)) (NS B4 bw zD2 (by show U + s' ≤ 137438953472; omega) (by omega)) (ael B4 _) (NS B4 bw.fI zD2 (by show U + s' ≤ 137438953472; omega) (by omega))
  rw [aek B4, NR hD hl, ← ha] at hSu
  have er : gB (r.map (· * lead y)) (fI (List.replicate k 0 ++ aV y (lead r))) = uS y (lead y) (lead r) k r := Cn.ext (Cn.gB _ _) (Cn.dZ _ _) fun t => by
   rw [pO, dA, zF, dG, oQ, bW, uS, gR, bW, cM, mC, List.length_replicate]; grind
  have br2 : Bd 2 (U + d) N (uS y (lead y) (lead r) k r) := by
   rw [← er]
   exact (Bd.gB (by decide) brl bw.fI).mono (by omega) (by omega)
  rw [er] at hSu
  have ew : qd (List.replicate k 0 ++ aV y (lead r)) (D * lead y) = List.replicate k 0 ++ qd (aV y (lead r)) (D * lead y) := by
   simp only [qd, List.map_append, List.map_replicate, tU B4]
  rw [ew] at hSu
  have lb : (qd (aV y (lead r)) (D * lead y)).length ≤ N := by have := bsc.len; simpa using this
  have aad : (qd Q D).set k (cP (lead r) (D * lead y)) = qd ((Q.map (· * lead y)).set k (lead r)) (D * lead y) := by
   rw [← NR hD hl Q, qd, qd, List.map_set]
  have hQl : (qd Q D).length = i := by simpa using hQ
  refine W.skip ?_
  refine W.block ?_
  generalize hz : qd Q D = z at *
  generalize qd (aV y (lead r)) (D * lead y) = b at *
  generalize NW : cP (lead r) (D * lead y) = c at *
  generalize hp2 : cP (lead r) D = p at *
  generalize hlq : (lead y : Rat) = lq at *
  generalize ha2 : qd (uS y (lead y) (lead r) k r) (D * lead y) = a2 at *
  refine W.sr ?_; simp (disch := omega) [gw, la, lyq, hkI]; refine W.lx [0, 1, 6, 8] ?_; simp
  have ayV : 0 < r.length := by omega
  have e1 : ((r.length : Int) - 1).toNat = r.length - 1 := by omega
  have e2 : ((y.length : Int) - 1).toNat = y.length - 1 := by omega
  refine W.sd ?_
  simp (disch := omega) [gw, la, lyq, e1, e2, hp, LD]
  refine aA apn ?_
  simp (disch := omega) [gw]
  rw [if_pos (by kernel_rfl)]
  simp (disch := omega) [gw]
  refine W.lx [0, 1, 6, 8, 9] ?_; simp
  have hkl : k < z.length := by omega
  refine W.sr ?_; simp (disch := omega) [gw, hr, hkl]; refine W.lx [0, 1, 6, 8, 9] ?_; simp
  refine W.sr ?_; simp (disch := omega) [gw]; refine W.lx [0, 1, 6, 8, 9, 10] ?_; simp
  refine W.seq ?_
  refine W.sr ?_; simp (disch := omega) [gw]; refine W.lx [0, 1, 6, 8, 9, 10, 60, 61] ?_; simp
  refine W.block ?_
  refine W.a9 (fun m σ => ∃ (j v9 v10 v6 : Nat) (els : List (List PV)) (rows : Pm.Rows) (clk : Nat), σ = ⟨fa [(0, PP a), (1, PP yq), (6, .own 19 v6 0 i), (9, .ptr 9 v9 0 0), (10, .own 58 v10 0 k), (60, .int .i64 k), (61, .int .i64 j)], rows, clk⟩ ∧
   rows 19 = some ⟨v6, 50, 4, emap re (z.set k c)⟩ ∧ rows 9 = some ⟨v9, 50, 4, [[aI aF (aR DD c.num.natAbs), .bool (decide (c.num < 0)), aI aF (aR DD c.den), .bool false]]⟩ ∧
   rows 58 = some ⟨v10, 50, 4, els⟩ ∧ els.length = k ∧ (∀ e ∈ els, e.length = 4) ∧ els.take j = emap ri (List.replicate j 0) ∧ m = k - j ∧ j ≤ k) k ?_ ?_
  ·exact ⟨_, aC _ [0, 1, 6, 9, 10, 60, 61], 0, _, _, _, List.replicate k [.nil, .bool false, .nil, .bool false], _, _, rfl, by simp [hr], by simp, by simp, by simp, by simp, by simp [emap], by omega, by omega⟩
  clear hr rows clk v6
  rintro m _ ⟨j, v9, v10, v6, els, rows, clk, rfl, hr, FZ, JN, kY, JL, oX, hm, hj⟩
  have M9 : bC 4 els = True := by simp only [bC, eq_iff_iff, iff_true]; exact JL
  refine W.sr ?_; simp (disch := omega) [gw]; refine W.lx [0, 1, 6, 9, 10, 60, 61, 62] ?_; simp
  refine W.seq ?_
  refine W.cond ⟨_, rfl, fun h => ?_, fun h => ?_⟩
  ·have h : j < k := by simp at h; omega
   refine W.skip ?_
   refine W.seq ?_
   refine W.block ?_
   refine W.sr ?_; simp (disch := omega) [gw]; refine W.lx [0, 1, 6, 9, 10, 11, 60, 61] ?_; simp
   refine W.b8 (fun K hK => ?_)
   simp (disch := omega) [gw]
   refine aA nM ?_
   have sE : j < els.length := by omega
   have hE : rQ els j 4 = True := by
    simp only [eq_iff_iff, iff_true]
    exact ⟨els[j], List.getElem?_eq_getElem sE, by rw [JL _ (List.getElem_mem sE)]; omega⟩
   have hS : gN els j 0 [aI aF (aR DD 0), .bool false, aI aF (aR DD 1), .bool false] = els.set j (ri 0) := by
    have h4 := JL _ (List.getElem_mem sE)
    rw [gN, List.getElem?_eq_getElem sE]
    simp [List.drop_of_length_le, h4]
   simp (disch := omega) [gw, JN, hE, hS]
   refine W.lw [0, 1, 6, 9, 10, 60, 61] hK ?_; clear hK K; simp
   refine W.b8 (fun K hK => ?_); simp (disch := omega) [gw]
   refine hK _ ⟨k - (j + 1), _, aC _ [0, 1, 6, 9, 10, 60, 61], by omega, j + 1, v9, v10, v6, els.set j (ri 0), _, _, rfl, by simp [hr], by simp [FZ], by simp, by simpa using kY, fun e he => ?_, ?_, by omega, by omega⟩
   ·rcases List.mem_or_eq_of_mem_set he with h1 | h1
    ·exact JL e h1
    ·rw [h1]; rfl
   ·rw [kF oX (by omega), List.replicate_succ']
    simp [emap]
  have h : j = k := by simp at h; omega
  subst h
  have rA : els = emap re (List.replicate j 0) := by
   have h1 : emap ri (List.replicate j 0) = emap re (List.replicate j 0) := by simp [emap, eN]
   rw [← h1, ← oX, bE kY]
  subst rA
  clear oX JL kY M9
  refine W.exit ?_; simp only [pX, if_true, if_false, reduceIte, Nat.reduceEqDiff]
  refine W.M4 (fun K hK => ?_)
  rw [if_pos rfl, dR]
  have hsl : ((List.take r.length a).drop 0) = a := by rw [List.drop_zero, List.take_of_length_le (by omega)]
  simp (disch := omega) [gw, la, lyq, FZ, EW, hsl]
  refine aA hSc ?_
  have uR : List.take (j + b.length) (List.replicate j 0 ++ b) = List.replicate j 0 ++ b := List.take_of_length_le (by simp)
  simp (disch := omega) [gw, JN, uR]
  refine aA hSu ?_
  simp (disch := omega) [gw]
  subst ha2
  have cJ : rows 19 = some ⟨v6, 50, 4, emap re (qd ((Q.map (· * lead y)).set j (lead r)) (D * lead y))⟩ := by rw [hr, aad]
  refine hK _ ⟨n, _, aC _ [0, 1, 6], by omega, (Q.map (· * lead y)).set j (lead r), uS y (lead y) (lead r) j r, D * lead y, v6, _, _, rfl, by simp [cJ], by simpa using hQ, hI2, by omega, by omega, hd, ?_, ?_⟩
  ·rw [hT]; exact br2
  ·rw [hT]; exact Nat.le_trans zD2 (by omega)
 ·have h : r.length < y.length := by simp at h; omega
  rw [aem h] at hd
  subst hd
  refine W.exit ?_; simp only [pX, if_true, if_false, reduceIte, Nat.reduceEqDiff]
  have hcq := tS (qd Q D) (by simp; omega)
  rw [tV hD] at hcq
  have hQl : (qd Q D).length = i := by simpa using hQ
  have uT := bE hQl
  rw [← ha]
  generalize qd Q D = z at *
  generalize qd (aM Q) D = z2 at *
  refine W.sr ?_
  simp (disch := omega) [gw, hr, uT]
  refine aA hcq ?_
  simp (disch := omega) [gw]
  refine W.lx [4, 5] ?_; simp
  refine W.ret ?_
  simp [go]
theorem JW {x y : List Int} (cy : Cn y) (hy : 0 < y.length) : ∀ (j : Nat), j ≤ x.length → exs y j (List.replicate j 0 ++ x.drop j) (bH (aM (x.take j)) y) = some (x, [])
 | 0, _ => by
  have : bH (aM (x.take 0)) y = [] := Cn.ext (Cn.bH _ _) Cn.nil fun t => by rw [cM, cA]; simp [V]
  rw [exs, this]; rfl
 | j + 1, h => by
  have ih := JW (x := x) cy hy j (by omega)
  have hly := cD cy hy
  have ht := a8 (l := x) (i := j) (by omega)
  have hdr : x.drop j = nth x j :: x.drop (j + 1) := by
   rw [List.drop_eq_getElem_cons (l := x) (i := j) (by omega), show nth x j = x[j] from cT (by omega)]
  rw [exs]
  by_cases hv : nth x j = 0
  ·have hw : aM (x.take (j + 1)) = aM (x.take j) := by rw [ht, hv, iP]
   rw [hw]
   have h1 := pQ (x := aM (x.take j)) hy
   have h2 := bM (x.take j)
   rw [List.length_take] at h2
   rw [if_pos (by omega), ← ih]
   rw [hdr, hv, List.replicate_succ', List.append_assoc]; rfl
  ·have hw : aM (x.take (j + 1)) = x.take j ++ [nth x j] := by rw [ht]; exact fQ hv _
   have cw : Cn (x.take j ++ [nth x j]) := fQ hv _
   have hwl : (x.take j ++ [nth x j]).length = j + 1 := by simp; omega
   have hlw : lead (x.take j ++ [nth x j]) = nth x j := by
    rw [lead, hwl, Nat.add_sub_cancel, cT (by omega)]
    have : (x.take j).length = j := by simp; omega
    simp [List.getElem_append_right, this]
   rw [hw]
   have hl := iS cw cy (by omega) hy
   have hd := u7 cw cy (by omega) hy
   rw [hwl] at hl
   rw [hlw] at hd
   rw [if_neg (by omega), hd, if_pos (Int.mul_emod_left _ _), Int.mul_ediv_cancel _ hly]
   have e1 : dZ (bH (x.take j ++ [nth x j]) y) (bH (oW j (nth x j)) y) = bH (aM (x.take j)) y := Cn.ext (Cn.dZ _ _) (Cn.bH _ _) fun t => by
    rw [gR, cM, cM, cM, cA, dG, l7, mC, show (x.take j).length = j by simp; omega]
    grind
   have e2 : (List.replicate (j + 1) 0 ++ x.drop (j + 1)).set j (nth x j) = List.replicate j 0 ++ x.drop j := by
    rw [hdr, List.replicate_succ', List.append_assoc, List.set_append_right _ _ (by simp)]
    simp
   rw [e1, e2]
   exact ih
theorem NX {x y : List Int} (cx : Cn x) (cy : Cn y) (hy : 0 < y.length) : exact (bH x y) y = some x := by
 have hk : iF (bH x y) y = x.length := by
  rcases Nat.eq_zero_or_pos x.length with h | h
  ·have : x = [] := List.eq_nil_of_length_eq_zero h
   have e : bH x y = [] := Cn.ext (Cn.bH _ _) Cn.nil fun t => by rw [cM, this]; simp [V]
   rw [e, this]; simp [iF]; omega
  ·have := iS cx cy h hy
   unfold iF; omega
 have h1 := JW (x := x) cy hy x.length (Nat.le_refl _)
 rw [List.take_length, show aM x = x from cx, List.drop_length, List.append_nil] at h1
 rw [exact, hk, h1, exF, show aM x = x from cx]
theorem F0 {y h : List Int} (cy : Cn y) (hy : 0 < y.length) (e : ∀ t, V t y * V t h = 0) : aM h = [] := by
 by_cases hh : aM h = []
 ·exact hh
 ·exfalso
  have h1 : bH y (aM h) = [] := Cn.ext (Cn.bH _ _) Cn.nil fun t => by rw [cM, cA, e]; rfl
  have h2 := iS cy (Cn.cut h) hy (List.length_pos_iff.2 hh)
  rw [h1] at h2
  have := List.length_pos_iff.2 hh
  simp at h2; omega
theorem JX {a b : List Int} (h : aM (dZ a b) = []) (t : Int) : V t a = V t b := by
 have h1 := gR (t := t) a b
 rw [← cA, h] at h1
 have : V t ([] : List Int) = 0 := rfl
 omega
theorem U2 {D : Int} (h : D ≠ 0) (x : List Int) : qd (x.map (· * D)) D = qs x := by
 have := NR (D := 1) (l := D) (by decide) h x
 rw [Int.one_mul, FU] at this
 exact this
theorem aaw {x y q : List Int} (cx : Cn x) (cy : Cn y) (hy : 0 < y.length) (cq : Cn q) (h : ∀ t, V t x = V t q * V t y) : qd (aM (dmd x y).Q) (dmd x y).D = qs q ∧ (dmd x y).r = [] := by
 obtain ⟨hI, hr⟩ := aen cx cy hy
 generalize dmd x y = σ at *
 have hv := hI.v
 have e : ∀ t, V t σ.r = V t y * V t (dZ (q.map (· * σ.D)) σ.Q) := fun t => by
  have h1 := hv t
  rw [h] at h1
  rw [gR, dA]
  grind
 have h1 := C6 hI.c cy hy e hr
 have h2 : aM (dZ (q.map (· * σ.D)) σ.Q) = [] := F0 cy hy fun t => by rw [← e, h1]; rfl
 have e2 : aM σ.Q = q.map (· * σ.D) := Cn.ext (Cn.cut _) (j0 cq hI.d) fun t => by rw [cA]; exact (JX h2 t).symm
 rw [e2]
 exact ⟨U2 hI.d q, h1⟩
end Go.Proofs.YtbbjgncblhfegaaGreat
