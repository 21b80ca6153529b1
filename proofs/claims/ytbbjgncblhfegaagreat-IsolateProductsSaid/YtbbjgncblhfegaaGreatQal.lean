import Derived.Test.YtbbjgncblhfegaaGreatQaf
import Derived.Test.YtbbjgncblhfegaaGreatQak
set_option linter.unusedSimpArgs false
set_option linter.unusedVariables false
namespace Go.Proofs.YtbbjgncblhfegaaGreat
open Go Pm
theorem adu (x : List Int) : kM (x.map qO) = aM x := by simp only [kM, bQ]
theorem jP {x : List Int} (hx : Cn x) {m : Int} (hm : m ≠ 0) : Cn (x.map (· * m)) := by
 rcases Nat.eq_zero_or_pos x.length with h | h
 ·have : x = [] := List.eq_nil_of_length_eq_zero h
  subst this; rfl
 ·have e := rQ h
  have : x.map (· * m) = (x.take (x.length - 1)).map (· * m) ++ [lead x * m] := by
   conv => lhs; rw [e]
   simp
  rw [this]
  exact iZ (Int.mul_ne_zero (cI hx h) hm) _
theorem p9 {x : List Int} (hx : Cn x) {m : Int} (hm : m ≠ 0) : aV x m = x.map (· * m) := jP hx hm
theorem MQ {x : List Int} (hx : Cn x) : aV x 1 = x := Cn.ext (Cn.aV _ _) hx fun t => by rw [bU]; omega
theorem MR (x : List Int) : fD x = aV x (-1) := Cn.ext (Cn.fD _) (Cn.aV _ _) fun t => by rw [y5, bU]; omega
theorem jQ (m : Int) (x : List Int) : bH (x.map (· * m)) = bH x * m.natAbs := by
 have key : ∀ (l : List Int) (g : Nat), (l.map (· * m)).foldl (fun g c => Nat.gcd g c.natAbs) (g * m.natAbs) = l.foldl (fun g c => Nat.gcd g c.natAbs) g * m.natAbs := by
  intro l
  induction l with
  | nil => intro g; rfl
  | cons c l ih =>
   intro g
   simp only [List.map_cons, List.foldl_cons]
   rw [Int.natAbs_mul, Nat.gcd_mul_right, ih]
 have := key x 0
 rw [Nat.zero_mul] at this
 exact this
theorem TH {m : Int} (hm : 0 < m) (g v : Int) : oF (g * m) (v * m) = oF g v := by
 unfold oF
 rw [Int.mul_comm v, Int.mul_comm g, Int.mul_emod_mul_of_pos _ _ hm, Int.mul_ediv_mul_of_pos _ _ hm]
 have : m * (v % g) = 0 ↔ v % g = 0 := by
  constructor
  ·intro h
   rcases Int.mul_eq_zero.1 h with h | h
   ·omega
   ·exact h
  ·intro h; rw [h]; simp
 simp only [this]
theorem MS {m : Int} (hm : 0 < m) (x : List Int) : iR (x.map (· * m)) = iR x := by
 unfold iR
 rw [jQ, List.map_map]
 congr 1
 refine List.map_congr_left fun v _ => ?_
 simp only [Function.comp_apply]
 have : ((bH x * m.natAbs : Nat) : Int) = (bH x : Int) * m := by rw [Int.natCast_mul]; congr 1; omega
 rw [this, TH hm]
theorem wE {x : List Int} (hx : Cn x) {m : Int} (hm : 0 < m) : iR (aV x m) = iR x := by rw [p9 hx (by omega), MS hm]
def sg (c : Int) (k : Nat) : Int := if k % 2 = 1 ∧ c < 0 then -1 else 1
theorem YW (c : Int) : ∀ k : Nat, c ^ k = sg c k * (c.natAbs : Int) ^ k
 | 0 => by simp [sg]
 | k + 1 => by
  have ih := YW c k
  have hc : c = (if c < 0 then -1 else 1) * (c.natAbs : Int) := by split <;> omega
  have hs : sg c (k + 1) = sg c k * (if c < 0 then -1 else 1) := by
   unfold sg
   by_cases h : c < 0
   ·rcases Nat.mod_two_eq_zero_or_one k with h2 | h2
    ·rw [if_pos ⟨by omega, h⟩, if_neg (by omega), if_pos h]; rfl
    ·rw [if_neg (by omega), if_pos ⟨h2, h⟩, if_pos h]; rfl
   ·rw [if_neg (fun h2 => h h2.2), if_neg (fun h2 => h h2.2), if_neg h]; rfl
  rw [Int.pow_succ, Int.pow_succ, ih, hs]
  conv => lhs; rw [hc]
  generalize (if c < 0 then (-1 : Int) else 1) = e at *
  have e3 : ((e * (c.natAbs : Int)).natAbs : Int) = (c.natAbs : Int) := by rw [← hc]
  rw [e3]
  grind
theorem YX (c : Int) (k : Nat) : sg c k * sg c k = 1 := by unfold sg; split <;> rfl
theorem YZ {a b : List Int} (ca : Cn a) : I3 a b = iR (aV (vX a b).2 (sg (lead b) (iA a b))) := by
 have cr := (y8 (b := b) ca).2
 unfold I3 sg
 split
 ·rw [MR]
 ·rw [MQ cr]
theorem j4 (x : List Int) : (iR x).length ≤ x.length := Nat.le_trans (bN _) (by simp)
theorem I6 (x : List Int) : (fD x).length ≤ x.length := Nat.le_trans (bN _) (by simp)
theorem adw {a b : List Int} (hb : 0 < b.length) : (I3 a b).length < b.length := by
 have h1 := EL (a := a) hb
 unfold I3
 split
 ·have h2 := j4 (fD (vX a b).2)
  have h3 := I6 (vX a b).2
  omega
 ·have h2 := j4 (vX a b).2
  omega
theorem aiN (a b : List Int) : Cn (I3 a b) := by unfold I3; split <;> exact Cn.cut _
def Y1 (b : List Int) : Nat → List Int → List Int → Option (List Int × List Int)
 | 0, q, a => some (q, a)
 | i + 1, q, a => if a.length < b.length + i then Y1 b i q a else if lead a % lead b = 0 then Y1 b i (q.set i (lead a / lead b)) (dZ a (bI (oB i (lead a / lead b)) b)) else none
def exF : Option (List Int × List Int) → Option (List Int)
 | some (q, []) => some (aM q)
 | _ => none
def exact (a b : List Int) : Option (List Int) := exF (Y1 b (iA a b) (List.replicate (iA a b) 0) a)
def exR (o : Option (List Int)) : PV :=
 match o with
 | some q => .eN [Po q, .int .i64 0]
 | none => .eN [Po [], .int .i64 3]
theorem Bd.set {B s n : Nat} {x : List Int} (h : Bd B s n x) {i : Nat} {v : Int} (hv : Pm.sz B v ≤ s) : Bd B s n (x.set i v) := ⟨by simpa using h.len, fun c hc => by
 rcases List.mem_or_eq_of_mem_set hc with h1 | h1
 ·exact h.sz c h1
 ·rw [h1]; exact hv⟩
theorem TJ (a b : RP) {s s' N : Nat} (ha : qP a) (hb : qP b) (sa : Bd LL s N (a.map gv)) (sb : Bd LL s' N (b.map gv)) (hB : s + N * (s' + N + 1) + s' + N + N + 10 < 1099511627774) :
  aL env.P 225 [Pg a, Pg b] (if kM b = [] then .eN [Po [], .int .i64 2] else exR (exact (kM a) (kM b))) := by
 have hA : Bd LL s N (kM a) := sa.cut
 have PA : Bd LL s' N (kM b) := sb.cut
 have ca : Cn (kM a) := Cn.cut _
 have cb : Cn (kM b) := Cn.cut _
 have na := gB a ha
 have nb := gB b hb
 rw [show aM (a.map gv) = kM a from rfl] at na
 rw [show aM (b.map gv) = kM b from rfl] at nb
 refine aB (E := env) (fun _ => 0) [(0, Pg a), (1, Pg b)] Tryz.func225 rfl (by kernel_rfl) (by kernel_rfl) (show 2 ≤ 71 by decide) (by simp) ?_
 generalize kM a = x at *
 generalize kM b = y at *
 refine W.sr ?_; simp (disch := omega) [gw]; refine W.lx [0, 1] ?_; simp
 refine W.sr ?_
 simp (disch := omega) [gw]
 refine aA na ?_
 simp (disch := omega) [gw]
 refine aA nb ?_
 simp (disch := omega) [gw]
 refine W.lx [0, 1] ?_; simp
 refine W.seq ?_
 refine W.sr ?_; simp (disch := omega) [gw]; refine W.lx [0, 1, 17] ?_; simp
 refine W.cond ⟨_, rfl, fun h => ?_, fun h => ?_⟩
 ·have h : y = [] := by simp at h; exact h
  rw [if_pos h]
  refine W.sr ?_; simp (disch := omega) [gw]; refine W.lx [4, 5] ?_; simp
  refine W.ret ?_
  simp [go]
  rfl
 have hy : y ≠ [] := by simp at h; exact h
 clear h
 rw [if_neg hy]
 have MD : 0 < y.length := List.length_pos_iff.2 hy
 have hNx := hA.len
 have hNy := PA.len
 have hsy := fA PA
 have hly := cI cb MD
 have hL := jO (PB.of PA (by omega) (by omega)) cb
 have hDy := j3 y (by omega)
 have hkN : iA x y ≤ N := by unfold iA; omega
 generalize hdd : s' + N + 1 = d at *
 have YU : ∀ j, j ≤ N → (N - j) * d ≤ N * d := fun j _ => Nat.mul_le_mul_right _ (by omega)
 have hkk : (if (0 : Int) < (x.length : Int) - (y.length : Int) + 1 then (x.length : Int) - (y.length : Int) + 1 else 0) = (iA x y : Int) := by unfold iA; split <;> omega
 refine W.skip ?_
 refine W.sr ?_
 simp (disch := omega) [gw, hkk]
 refine W.lx [0, 1, 6] ?_; simp
 refine W.row (id := 25) (emap ie (List.replicate (iA x y) 0)) (by simp; exact ⟨rfl, rfl, rfl⟩) (o9 _) ?_
 refine W.seq ?_
 refine W.sr ?_; simp (disch := omega) [gw]; refine W.lx [0, 1, 6, 7] ?_; simp
 refine W.block ?_
 obtain ⟨R0, G1⟩ : ∃ R0, R0 = Y1 y (iA x y) (List.replicate (iA x y) 0) x := ⟨_, rfl⟩
 have hex : exact x y = exF R0 := by rw [G1]; rfl
 rw [hex]
 clear hex
 generalize vZ : iA x y = k0 at *
 refine W.bB (fun j σ => ∃ (v6 : Nat) (z r : List Int) (rows : Pm.Rows) (clk : Nat), σ = ⟨fa [(0, Po r), (1, Po y), (6, .own 25 v6 0 k0), (7, .int .i64 ((j : Int) - 1))], rows, clk⟩ ∧
  rows 25 = some ⟨v6, 40, 2, emap ie z⟩ ∧ z.length = k0 ∧ j ≤ k0 ∧ Y1 y j z r = R0 ∧ Bd LL (s + (N - j) * d) (N + N) z ∧ Bd LL (s + (N - j) * d) (N + N) r ∧ Cn r) k0 ?_ ?_
 ·exact ⟨_, .refl, _, List.replicate k0 0, x, _, _, rfl, by simp, by simp, by omega, G1.symm, ⟨by simp; omega, fun c hc => by rw [(List.mem_replicate.1 hc).2, i3]; omega⟩, hA.mono (by omega) (by omega), ca⟩
 rintro j _ ⟨v6, z, r, rows, clk, rfl, Y2, hz, hj, wD, bz, br, cr⟩
 refine W.seq ?_
 refine W.sr ?_; simp (disch := omega) [gw]; refine W.lx [0, 1, 6, 7, 30] ?_; simp
 refine W.cond ⟨_, rfl, fun h => ?_, fun h => ?_⟩
 ·have hj0 : 0 < j := by simp at h; omega
  obtain ⟨i, rfl⟩ : ∃ i, j = i + 1 := ⟨j - 1, by omega⟩
  clear h
  have ei : ((i + 1 : Nat) : Int) - 1 = i := by omega
  rw [ei]
  have hN1 := YU (i + 1) (by omega)
  have KL := YU i (by omega)
  have hT : s + (N - i) * d = s + (N - (i + 1)) * d + s' + N + 1 := by
   rw [show N - i = (N - (i + 1)) + 1 by omega, Nat.add_mul, Nat.one_mul]; omega
  have hDr := j3 r (by have := br.len; omega)
  have hLr := jO (PB.of br (by omega) (by omega)) cr
  have hlr := fA br
  rw [Y1] at wD
  refine W.skip ?_
  refine W.eY (fun σ => ∃ (z r : List Int) (rows : Pm.Rows) (clk : Nat), σ = ⟨fa [(0, Po r), (1, Po y), (6, .own 25 v6 0 k0), (7, .int .i64 i)], rows, clk⟩ ∧
   rows 25 = some ⟨v6, 40, 2, emap ie z⟩ ∧ z.length = k0 ∧ Y1 y i z r = R0 ∧ Bd LL (s + (N - i) * d) (N + N) z ∧ Bd LL (s + (N - i) * d) (N + N) r ∧ Cn r) ?_ ?_
  ·
   refine W.seq ?_
   refine W.sr ?_
   simp (disch := omega) [gw]
   refine aA hDr ?_
   simp (disch := omega) [gw]
   refine aA hDy ?_
   simp (disch := omega) [gw]
   refine W.lx [0, 1, 6, 7, 39] ?_; simp
   by_cases hlen : r.length < y.length + i
   ·rw [if_pos hlen] at wD
    refine W.cond ⟨_, rfl, fun h => ?_, fun h => ?_⟩
    ·refine W.exit ?_; simp only [pX, if_true, if_false, reduceIte, Nat.reduceEqDiff]
     exact ⟨_, aC _ [0, 1, 6, 7], z, r, _, _, rfl, Y2, hz, wD, bz.mono (by omega) (by omega), br.mono (by omega) (by omega), cr⟩
    ·exfalso; simp at h; omega
   rw [if_neg hlen] at wD
   refine W.cond ⟨_, rfl, fun h => ?_, fun h => ?_⟩
   ·exfalso; simp at h; omega
   clear h
   have hE := ET (v := lead r) (c := lead y) (by omega) (by omega) hly
   refine W.skip ?_
   by_cases YA : lead r % lead y = 0
   ·rw [if_pos YA] at hE wD
    have hts : sz LL (lead r / lead y) ≤ s + (N - (i + 1)) * d := Nat.le_trans (cU fL (Int.natAbs_ediv_le_natAbs _ _)) hlr
    have bs := Bd.oB hts i
    have bm := bs.bI fL PA
    have b2 : Bd LL (s + (N - i) * d) (N + N) (dZ r (bI (oB i (lead r / lead y)) y)) := (Bd.dZ fL (br.mono (s' := s + (N - (i + 1)) * d + s' + N) (n' := N + N) (by omega) (by omega)) (bm.mono (by omega) (by omega))).mono (by omega) (by omega)
    have f4 := uX bs PA (by omega)
    have f5 := CX (PB.of br (by omega) (by omega)) (PB.of bm (by omega) (by omega))
    have cr2 : Cn (dZ r (bI (oB i (lead r / lead y)) y)) := Cn.dZ _ _
    have bz2 := Bd.set (i := i) (bz.mono (s' := s + (N - i) * d) (n' := N + N) (by omega) (by omega)) (Nat.le_trans hts (by omega))
    generalize cT : dZ r (bI (oB i (lead r / lead y)) y) = r2 at *
    generalize bI (oB i (lead r / lead y)) y = pm at *
    generalize lead r / lead y = tt at *
    have YV := pD i tt
    have aiM : (oB i tt).length = i + 1 := by simp [oB]
    have lE := bG aiM
    generalize lead r = lr at *
    generalize lead y = ly at *
    refine W.sr ?_
    simp (disch := omega) [gw]
    refine aA hLr ?_
    simp (disch := omega) [gw]
    refine aA hL ?_
    simp (disch := omega) [gw]
    refine aA hE ?_
    simp (disch := omega) [gw]
    refine W.lx [0, 1, 6, 7, 8, 9] ?_; simp
    refine W.seq ?_
    refine W.sr ?_; simp (disch := omega) [gw]; refine W.lx [0, 1, 6, 7, 8, 49] ?_; simp
    refine W.cond ⟨_, rfl, fun h => ?_, fun h => ?_⟩
    ·cases h
    refine W.skip ?_
    refine W.sr ?_
    simp (disch := omega) [gw, Y2, hz]
    refine W.lx [0, 1, 6, 7, 8] ?_; simp
    have e9 : ((i : Int) + 1).toNat = i + 1 := by omega
    refine W.sr ?_; simp (disch := omega) [gw, e9]; refine W.lx [0, 1, 6, 7, 8, 10] ?_; simp
    refine W.row (id := 56) (emap ie (List.replicate (i + 1) 0)) (by simp; exact ⟨rfl, rfl, rfl⟩) (o9 _) ?_
    refine W.sr ?_
    simp (disch := omega) [gw, YV]
    refine W.lx [0, 1, 6, 7, 10] ?_; simp
    refine W.freeze 56 (by simp) (fun K hK => ?_)
    simp [lE]
    refine hK _ ?_; clear hK K
    refine W.b9 (fun K hK => ?_)
    simp (disch := omega) [gw]
    refine aA f4 ?_
    simp (disch := omega) [gw]
    refine aA f5 ?_
    simp (disch := omega) [gw]
    exact hK _ ⟨_, aC _ [0, 1, 6, 7], z.set i tt, r2, _, _, rfl, by simp, by simp [hz], wD, bz2, b2, cr2⟩
   ·rw [if_neg YA] at hE wD
    subst wD
    refine W.sr ?_
    simp (disch := omega) [gw]
    refine aA hLr ?_
    simp (disch := omega) [gw]
    refine aA hL ?_
    simp (disch := omega) [gw]
    refine aA hE ?_
    simp (disch := omega) [gw]
    refine W.lx [0, 1, 6, 7, 8, 9] ?_; simp
    refine W.seq ?_
    refine W.sr ?_; simp (disch := omega) [gw]; refine W.lx [0, 1, 6, 7, 8, 49] ?_; simp
    refine W.cond ⟨_, rfl, fun h => ?_, fun h => ?_⟩
    ·refine W.sr ?_; simp (disch := omega) [gw]; refine W.lx [4, 5] ?_; simp
     refine W.ret ?_
     simp [go, exR, exF]
     rfl
    ·cases h
  rintro _ ⟨z, r, rows, clk, rfl, Y2, hz, wD, bz, br, cr⟩
  refine W.b9 (fun K hK => ?_); simp (disch := omega) [gw]
  refine hK _ ⟨i, _, aC _ [0, 1, 6, 7], by omega, v6, z, r, _, _, rfl, by simp [Y2], hz, by omega, wD, bz, br, cr⟩
 ·have hj0 : j = 0 := by simp at h; omega
  subst hj0
  simp only [Y1] at wD
  rw [← wD]
  have hN0 := YU 0 (by omega)
  have hzn := iD (PB.of bz (by omega) (by omega))
  have hzz := bG hz
  refine W.exit ?_; simp only [pX, if_true, if_false, reduceIte, Nat.reduceEqDiff]
  refine W.seq ?_
  refine W.sr ?_; simp (disch := omega) [gw]; refine W.lx [6, 68] ?_; simp
  cases r with
  | nil =>
   refine W.cond ⟨_, rfl, fun h => ?_, fun h => ?_⟩
   ·exfalso; simp at h
   refine W.skip ?_
   refine W.sr ?_
   simp (disch := omega) [gw, Y2, hzz]
   refine aA hzn ?_
   simp (disch := omega) [gw]
   refine W.lx [4, 5] ?_; simp
   refine W.ret ?_
   simp [go, exR, exF]
  | cons c r =>
   refine W.cond ⟨_, rfl, fun h => ?_, fun h => ?_⟩
   ·refine W.sr ?_; simp (disch := omega) [gw]; refine W.lx [4, 5] ?_; simp
    refine W.ret ?_
    simp [go, exR, exF]
    rfl
   ·exfalso; simp at h
theorem zV {d : Nat} {x : List Int} (h : ∀ c ∈ x, (d : Int) ∣ c) : d ∣ bH x := by
 have key : ∀ (l : List Int) (g : Nat), d ∣ g → (∀ c ∈ l, (d : Int) ∣ c) → d ∣ l.foldl (fun g c => Nat.gcd g c.natAbs) g := by
  intro l
  induction l with
  | nil => intro g hg _; exact hg
  | cons c l ih =>
   intro g hg hl
   rw [List.foldl_cons]
   exact ih _ (Nat.dvd_gcd hg (Int.ofNat_dvd_left.1 (hl c (by simp)))) fun v hv => hl v (by simp [hv])
 exact key x 0 (Nat.dvd_zero d) h
theorem xM {x : List Int} {g : Int} (h : ∀ c ∈ x, g ∣ c) : (x.map (oF g)).map (· * g) = x := by
 rw [List.map_map]
 refine (List.map_congr_left fun v hv => ?_).trans (List.map_id _)
 have h1 : v % g = 0 := Int.emod_eq_zero_of_dvd (h v hv)
 simp only [Function.comp_apply, oF, id_eq]
 rw [if_pos h1]
 exact Int.ediv_mul_cancel (h v hv)
theorem uY {x y : List Int} {g : Int} (hg : g ≠ 0) (h : y.map (· * g) = x) (e : bH x = g.natAbs) : bH y = 1 := by
 have := jQ g y
 rw [h, e] at this
 exact Nat.eq_of_mul_eq_mul_right (show 0 < g.natAbs by omega) (by omega)
theorem dA (t : Int) (g : Int) (x : List Int) : V t (x.map (· * g)) = V t x * g := by
 have := fG (t := t) g id x
 simp only [id_eq, List.map_id_fun] at this
 exact this
theorem Y3 {x y : List Int} (cx : Cn x) (cy : Cn y) (hx : x ≠ []) (hy : y ≠ []) : bH (bI x y) = bH x * bH y := by
 have gx := bV cx hx
 have gy := bV cy hy
 have hp : bH (bI x y) ≠ 0 := bV (Cn.bI _ _) fun h => by
  have := iN cx cy (List.length_pos_iff.2 hx) (List.length_pos_iff.2 hy)
  rw [h] at this
  have h1 := List.length_pos_iff.2 hx
  have h2 := List.length_pos_iff.2 hy
  simp only [List.length_nil] at this
  omega
 obtain ⟨x', BX⟩ : ∃ x' : List Int, x'.map (· * (bH x : Int)) = x := ⟨_, xM (fV x)⟩
 obtain ⟨y', A6⟩ : ∃ y' : List Int, y'.map (· * (bH y : Int)) = y := ⟨_, xM (fV y)⟩
 have px := uY (by omega) BX (by omega)
 have py := uY (by omega) A6 (by omega)
 have e : bI x y = (bI x' y').map (· * ((bH x : Int) * bH y)) := by
  rw [← p9 (Cn.bI _ _) (Int.mul_ne_zero (by omega) (by omega))]
  refine Cn.ext (Cn.bI _ _) (Cn.aV _ _) fun t => ?_
  have h1 := dA t (bH x) x'
  have h2 := dA t (bH y) y'
  rw [BX] at h1
  rw [A6] at h2
  rw [cN, bU, cN, h1, h2]
  grind
 rw [e, jQ] at hp
 rw [e, jQ, Int.natAbs_mul]
 have hd : 0 < bH (bI x' y') := Nat.pos_of_mul_pos_right (Nat.pos_of_ne_zero hp)
 have hD := O1 _ (bH (bI x' y')) x' y' (Nat.le_refl _) hd (Dv.of (fV _)) (fun d _ hy => Nat.dvd_one.1 (py ▸ zV hy.mem))
 have h1 : bH (bI x' y') = 1 := Nat.dvd_one.1 (px ▸ zV hD.mem)
 rw [h1, Nat.one_mul]
 simp
def jR (x : List Int) : Int := if lead x < 0 then -(bH x : Int) else bH x
def pE (x : List Int) : List Int := aM (x.map (oF (jR x)))
theorem lU (x : List Int) : (jR x).natAbs = bH x := by unfold jR; split <;> omega
theorem EU (x : List Int) : ∀ c ∈ x, jR x ∣ c := fun c hc => by
 have := fV x c hc
 unfold jR; split
 ·exact Int.neg_dvd.2 this
 ·exact this
theorem EV {x : List Int} (cx : Cn x) (hx : x ≠ []) : (pE x).map (· * jR x) = x := by
 have gx := bV cx hx
 have h0 := lU x
 rw [← p9 (show Cn (pE x) from Cn.cut _) (show jR x ≠ 0 by omega)]
 refine Cn.ext (Cn.aV _ _) cx fun t => ?_
 rw [bU, pE, cA, ← dA, xM (EU x)]
theorem TK {x : List Int} (cx : Cn x) (hx : x ≠ []) : aV (pE x) (jR x) = x := by
 have gx := bV cx hx
 have h0 := lU x
 rw [p9 (show Cn (pE x) from Cn.cut _) (show jR x ≠ 0 by omega)]
 exact EV cx hx
theorem adx {x : List Int} (cx : Cn x) (hx : x ≠ []) : bH (pE x) = 1 := by
 have gx := bV cx hx
 have h0 := lU x
 exact uY (by omega) (EV cx hx) h0.symm
theorem Y4 {x : List Int} (cx : Cn x) (hx : x ≠ []) : 0 < lead (pE x) := by
 have gx := bV cx hx
 have h := EV cx hx
 have hl : (pE x).length = x.length := by rw [← congrArg List.length h]; simp
 have n8 := List.length_pos_iff.2 hx
 have h1 : lead x = lead (pE x) * jR x := by
  rw [lead, lead, hl, ← iB, h]
 have sH := cI (x := pE x) (Cn.cut _) (by omega)
 have hg : (0 : Int) < bH x := by omega
 unfold jR at h1
 rcases Int.lt_trichotomy (lead (pE x)) 0 with h2 | h2 | h2
 ·exfalso
  split at h1
  ·rename_i h3
   have := Int.mul_pos (show (0 : Int) < -lead (pE x) by omega) hg
   rw [Int.mul_neg, ← Int.neg_mul] at h1
   omega
  ·rename_i h3
   have := Int.mul_pos (show (0 : Int) < -lead (pE x) by omega) hg
   rw [Int.neg_mul] at this
   omega
 ·exact absurd h2 sH
 ·exact h2
theorem rE (a : RP) {s n : Nat} (ha : qP a) (sa : Bd LL s n (a.map gv)) (hs : s < 1099511627774) (hn : n < 1099511627774) :
  aL env.P 157 [Pg a] (.eN [I (jR (kM a)), Po (pE (kM a))]) := by
 have hA : Bd LL s n (kM a) := sa.cut
 have ca : Cn (kM a) := Cn.cut _
 have na := gB a ha
 rw [show aM (a.map gv) = kM a from rfl] at na
 refine aB (E := env) (fun _ => 0) [(0, Pg a)] Tryz.func157 rfl (by kernel_rfl) (by kernel_rfl) (show 1 ≤ 23 by decide) (by simp) ?_
 generalize kM a = x at *
 refine W.sr ?_; simp (disch := omega) [gw]; refine W.lx [0, 2] ?_; simp
 refine W.sr ?_
 simp (disch := omega) [gw]
 refine aA na ?_
 simp (disch := omega) [gw]
 refine W.lx [0, 2] ?_; simp
 refine W.seq ?_
 refine W.sr ?_; simp (disch := omega) [gw]; refine W.lx [0, 2, 9] ?_; simp
 refine W.cond ⟨_, rfl, fun h => ?_, fun h => ?_⟩
 ·have h : x = [] := by simp at h; exact h
  subst h
  rw [show jR ([] : List Int) = 0 by decide, show pE ([] : List Int) = [] from rfl]
  refine W.sr ?_; simp (disch := omega) [gw]; refine W.lx [2, 3] ?_; simp
  refine W.ret ?_
  simp [go]
  exact ⟨rfl, rfl⟩
 have hx : x ≠ [] := by simp at h; exact h
 clear h
 have n8 := List.length_pos_iff.2 hx
 have gx := bV ca hx
 have hp0 := lU x
 have hC := tM x (PD.of hA hs hn)
 have hL := jO (PB.of hA (by omega) (by omega)) ca
 have hgs := PC (s := s) hA.sz ca hx
 have F9 : sz LL (jR x) ≤ s := by
  unfold jR; split
  ·rw [nJ]; exact hgs
  ·exact hgs
 have hO := I0 x (jR x) (PD.of hA hs hn) (by omega) (by omega)
 rw [show aM (x.map (oF (jR x))) = pE x from rfl] at hO
 have hN := afF (x := (bH x : Int)) (by show sz LL _ < _; omega)
 refine W.skip ?_
 refine W.sr ?_
 simp (disch := omega) [gw]
 refine aA hC ?_
 simp (disch := omega) [gw]
 refine W.lx [0, 2, 4] ?_; simp
 refine W.fQ (fun σ => ∃ (rows : Pm.Rows) (clk : Nat), σ = ⟨fa [(0, Po x), (2, .ptr 2 0 0 0), (4, .ptr 4 1 0 0)], rows, clk⟩ ∧ rows 2 = some ⟨0, 40, 2, [[.bool false, .nil]]⟩ ∧ rows 4 = some ⟨1, 40, 2, [ie (jR x)]⟩) ?_ ?_
 ·refine W.fR (fun σ => ∃ (rows : Pm.Rows) (clk : Nat), σ = ⟨fa [(0, Po x), (2, .ptr 2 0 0 0), (4, .ptr 4 1 0 0), (16, .bool (decide (lead x < 0)))], rows, clk⟩ ∧ rows 2 = some ⟨0, 40, 2, [[.bool false, .nil]]⟩ ∧ rows 4 = some ⟨1, 40, 2, [ie (bH x)]⟩) (fun K hK => ?_) ?_
  ·simp (disch := omega) [gw]
   refine aA hL ?_
   simp (disch := omega) [gw]
   refine hK _ _ (aC _ [0, 2, 4, 16]) ⟨_, _, rfl, ?_, ?_⟩ <;> simp [ie]
  rintro _ ⟨rows, clk, rfl, cT, jF⟩
  refine W.XF (lead x < 0) rfl (fun h => ?_) (fun h => ?_)
  ·rw [jR, if_pos h]
   refine W.b9 (fun K hK => ?_)
   simp (disch := omega) [gw, jF]
   refine aA hN ?_
   simp (disch := omega) [gw, jF]
   exact hK _ ⟨_, aC _ [0, 2, 4], _, _, rfl, by simp [cT], by simp⟩
  ·rw [jR, if_neg h]
   refine W.skip ?_
   exact ⟨_, aC _ [0, 2, 4], _, _, rfl, cT, jF⟩
 rintro _ ⟨rows, clk, rfl, cT, jF⟩
 generalize jR x = c at *
 generalize pE x = p at *
 refine W.sd ?_
 simp (disch := omega) [gw, jF]
 refine aA hO ?_
 simp (disch := omega) [gw, cT, jF]
 refine W.lx [2, 3] ?_; simp
 refine W.ret ?_
 simp [go]
abbrev qd (x : List Int) (D : Int) : List Rat := x.map fun v => cX v D
theorem dX {v D : Int} (h : D ≠ 0) : cX v D = (v : Rat) / (D : Rat) := by rw [cX, if_neg h, Rat.divInt_eq_div]
theorem fB {D : Int} (h : D ≠ 0) : (D : Rat) ≠ 0 := fun h2 => h (by exact_mod_cast h2)
theorem tN {D : Int} (h : D ≠ 0) : cX 0 D = 0 := by rw [dX h]; simp [Rat.div_def]
theorem wF {v D : Int} (h : D ≠ 0) : cX v D = 0 ↔ v = 0 := by
 constructor
 ·intro h2
  rw [dX h] at h2
  have h3 := fB h
  have : (v : Rat) = 0 := by
   have h4 : (v : Rat) / (D : Rat) * D = 0 := by rw [h2]; grind
   rw [Rat.div_mul_cancel h3] at h4
   exact h4
  exact_mod_cast this
 ·rintro rfl; exact tN h
theorem PE {v D l : Int} (h : D ≠ 0) (hl : l ≠ 0) : cX (v * l) (D * l) = cX v D := by
 rw [dX h, dX (Int.mul_ne_zero h hl), Rat.intCast_mul, Rat.intCast_mul]
 have h1 := fB h
 have h2 := fB hl
 grind
theorem ady {v w D : Int} (h : D ≠ 0) : cX v D + cX w D = cX (v + w) D := by
 rw [dX h, dX h, dX h, Rat.intCast_add]
 have h1 := fB h
 grind
theorem PF {v D : Int} (h : D ≠ 0) : cX v D * (-1) = cX (-v) D := by
 rw [dX h, dX h, Rat.intCast_neg]
 have h1 := fB h
 grind
theorem Y5 {v w D : Int} (h : D ≠ 0) : (w : Rat) * cX v D = cX (w * v) D := by
 rw [dX h, dX h, Rat.intCast_mul]
 have h1 := fB h
 grind
theorem adz {v D l : Int} (h : D ≠ 0) (hl : l ≠ 0) : cX v D / (l : Rat) = cX v (D * l) := by
 rw [dX h, dX (Int.mul_ne_zero h hl), Rat.intCast_mul]
 have h1 := fB h
 have h2 := fB hl
 grind
theorem tO {D : Int} (h : D ≠ 0) : ∀ x : List Int, lH (qd x D) = qd (aM x) D
 | [] => rfl
 | a :: x => by
  have ih := tO h x
  simp only [qd, List.map_cons] at ih ⊢
  rw [lH, ih, aM]
  by_cases h1 : aM x = [] ∧ a = 0
  ·simp [h1, tN h]
  ·rw [if_neg h1, if_neg (by simpa [wF h] using h1)]; simp
theorem EW {D : Int} (h : D ≠ 0) (x : List Int) (k : Nat) : nth (qd x D) k = cX (nth x k) D := xH (f := fun v => cX v D) (tN h) x k
theorem adA {D : Int} (h : D ≠ 0) (x y : List Int) : YR (qd x D) (qd y D) = qd (fU x y) D := by
 rw [YR, fU, ← tO h]
 congr 1
 simp only [qd, List.length_map, List.map_map]
 congr 1
 funext k
 simp only [Function.comp_apply]
 rw [show nth (List.map (fun v => cX v D) x) k = _ from EW h x k, show nth (List.map (fun v => cX v D) y) k = _ from EW h y k, ady h]
theorem adB {D : Int} (h : D ≠ 0) (x : List Int) : i5 (qd x D) (-1) = qd (fD x) D := by
 rw [i5, fD, ← tO h]
 congr 1
 simp only [qd, List.map_map]
 congr 1
 funext k
 simp only [Function.comp_apply]
 exact PF h
theorem TL {D : Int} (h : D ≠ 0) (y : List Int) (v : Int) : i5 (qs y) (cX v D) = qd (aV y v) D := by
 rw [i5, aV, ← tO h]
 congr 1
 simp only [qd, qs, List.map_map]
 congr 1
 funext k
 simp only [Function.comp_apply]
 exact Y5 h
theorem MT {D l : Int} (h : D ≠ 0) (hl : l ≠ 0) (x : List Int) : qd (x.map (· * l)) (D * l) = qd x D := by
 simp only [qd, List.map_map]
 congr 1
 funext k
 simp only [Function.comp_apply]
 exact PE h hl
theorem EX (x : List Int) : qd x 1 = qs x := by
 simp only [qd, qs, kF]
theorem rU {v D : Int} {k : Nat} (h : D ≠ 0) (hv : sz 2 v ≤ k) (hD : sz 2 D ≤ k) : ZR k (cX v D) := by
 refine ⟨Nat.le_trans (cU (by decide) ?_) hv, Nat.le_trans (cU (by decide) ?_) hD⟩
 ·rw [tH _ _ h]
  refine Nat.le_trans (Int.natAbs_ediv_le_natAbs _ _) ?_
  split <;> simp
 ·rw [tI _ _ h]
  refine Nat.le_trans (Int.natAbs_ediv_le_natAbs _ _) ?_
  split <;> simp
theorem MU {x : List Int} {D : Int} {k n : Nat} (h : D ≠ 0) (hx : Bd 2 k n x) (hD : sz 2 D ≤ k) (hk : k ≤ YY) (hn : n < 1099511627776) : TE (qd x D) := ⟨fun q hq => by
 simp only [List.mem_map] at hq
 obtain ⟨v, hv, rfl⟩ := hq
 exact rU h (Nat.le_trans (hx.sz v hv) hk) (Nat.le_trans hD hk), by have := hx.len; simp; omega⟩
structure DS where
 Q : List Int
 r : List Int
 D : Int
def dst (y : List Int) (σ : DS) : DS := ⟨(σ.Q.map (· * lead y)).set (σ.r.length - y.length) (lead σ.r), uI y (lead y) (lead σ.r) (σ.r.length - y.length) σ.r, σ.D * lead y⟩
def TM (y : List Int) : Nat → DS → DS
 | 0, σ => σ
 | n + 1, σ => if σ.r.length < y.length then σ else TM y n (dst y σ)
def Y6 (x y : List Int) : DS := TM y (x.length + 1) ⟨List.replicate (iA x y) 0, x, 1⟩
theorem EY {y : List Int} {σ : DS} (hy : 0 < y.length) (h : y.length ≤ σ.r.length) : (dst y σ).r.length < σ.r.length := by
 have h1 := xJ (b := y) (r := σ.r) (i := σ.r.length - y.length) hy (by omega)
 rw [show s5 y σ.r (σ.r.length - y.length) = lead σ.r from by rw [s5, if_pos (by omega)]] at h1
 show (uI y (lead y) (lead σ.r) (σ.r.length - y.length) σ.r).length < _
 omega
theorem adC {y : List Int} {σ : DS} (h : σ.r.length < y.length) : ∀ n, TM y n σ = σ
 | 0 => rfl
 | n + 1 => by rw [TM, if_pos h]
structure rV (x y : List Int) (σ : DS) : Prop where
 v : ∀ t, σ.D * V t x = V t σ.Q * V t y + V t σ.r
 z : ∀ j, j + y.length ≤ σ.r.length → nth σ.Q j = 0
 c : Cn σ.r
 d : σ.D ≠ 0
 q : σ.r.length + 1 ≤ σ.Q.length + y.length ∨ σ.r.length < y.length
theorem rV.step {x y : List Int} {σ : DS} (cy : Cn y) (hy : 0 < y.length) (h : y.length ≤ σ.r.length) (hI : rV x y σ) : rV x y (dst y σ) := by
 have hl := cI cy hy
 have gL := EY hy h
 have hq := hI.q.resolve_right (by omega)
 have hk : σ.r.length - y.length < (σ.Q.map (· * lead y)).length := by simp; omega
 have h1 := xJ (b := y) (r := σ.r) (i := σ.r.length - y.length) hy (by omega)
 rw [show s5 y σ.r (σ.r.length - y.length) = lead σ.r from by rw [s5, if_pos (by omega)]] at h1
 refine ⟨fun t => ?_, fun j hj => ?_, Cn.dZ _ _, Int.mul_ne_zero hI.d hl, ?_⟩
 ·have h2 := hI.v t
  have h3 := CI (b := t) (x := lead σ.r) hk
  have h4 : nth (σ.Q.map (· * lead y)) (σ.r.length - y.length) = 0 := by
   rw [iB, hI.z _ (by omega)]; simp
  show σ.D * lead y * V t x = V t ((σ.Q.map (· * lead y)).set (σ.r.length - y.length) (lead σ.r)) * V t y + V t (uI y (lead y) (lead σ.r) (σ.r.length - y.length) σ.r)
  rw [h3, h4, dA, uI, gJ, cN, lS, bU]
  have h5 : σ.D * lead y * V t x = lead y * (σ.D * V t x) := by grind
  rw [h5, h2]; grind
 ·have hj : j + y.length ≤ (uI y (lead y) (lead σ.r) (σ.r.length - y.length) σ.r).length := hj
  show nth ((σ.Q.map (· * lead y)).set (σ.r.length - y.length) (lead σ.r)) j = 0
  rw [eZ (by omega), iB, hI.z _ (by omega)]; simp
 ·left
  have : (dst y σ).Q.length = σ.Q.length := by simp [dst]
  omega
theorem rV.TM {x y : List Int} (cy : Cn y) (hy : 0 < y.length) : ∀ (n : Nat) (σ : DS), σ.r.length < n → rV x y σ → rV x y (TM y n σ) ∧ (Proofs.YtbbjgncblhfegaaGreat.TM y n σ).r.length < y.length
 | 0, σ, h, _ => by omega
 | n + 1, σ, h, hI => by
  rw [Proofs.YtbbjgncblhfegaaGreat.TM]
  split
  ·rename_i h1; exact ⟨hI, h1⟩
  ·rename_i h1
   exact rV.TM cy hy n _ (by have := EY (σ := σ) hy (by omega); omega) (hI.step cy hy (by omega))
theorem rV.start {x y : List Int} (cx : Cn x) : rV x y ⟨List.replicate (iA x y) 0, x, 1⟩ := by
 refine ⟨fun t => ?_, fun j hj => ?_, cx, show (1 : Int) ≠ 0 by decide, ?_⟩
 ·simp [n5]
 ·rcases Nat.lt_or_ge j (iA x y) with h | h
  ·rw [cC (by simpa using h)]; simp
  ·rw [fS (by simpa using h)]; rfl
 ·simp only [iA, List.length_replicate]; omega
theorem adD {x y : List Int} (cx : Cn x) (cy : Cn y) (hy : 0 < y.length) : rV x y (Y6 x y) ∧ (Y6 x y).r.length < y.length := rV.TM cy hy _ _ (Nat.lt_succ_self _) (rV.start cx)
@[simp] theorem aon {l : List Rat} {i : Nat} {q : Rat} : iI (emap re l) i 0 [aJ aF (aR DD q.num.natAbs), .bool (decide (q.num < 0)), aJ aF (aR DD q.den), .bool false] = emap re (l.set i q) := xK (n := 4) (fun _ => rfl)
theorem zW (x : List Int) : emap re (qs x) = emap ri x := by simp only [emap, qs, List.map_map, Function.comp_def, iC]
theorem Y7 (a b n : List Rat) (ha : TE a) (hb : TE b) (hn : i5 b (-1) = n) (UZ : TE n) : aL env.P 152 [PP a, PP b] (PP (YR a n)) := by
 have h1 := IX b hb
 rw [hn] at h1
 have h2 := YS a n ha UZ
 refine aB (E := env) (fun _ => 0) [(0, PP a), (1, PP b)] Tryz.func152 rfl (by kernel_rfl) (by kernel_rfl) (show 2 ≤ 9 by decide) (by simp) ?_
 refine W.sr ?_; simp (disch := omega) [gw]; refine W.lx [0, 1] ?_; simp
 refine W.sr ?_
 simp (disch := omega) [gw]
 refine aA h1 ?_
 simp (disch := omega) [gw]
 refine aA h2 ?_
 simp (disch := omega) [gw]
 refine W.lx [4] ?_; simp
 refine W.ret ?_
 simp [go]
def GJ (l : List Rat) : Int := l.foldl (fun d q => (d * q.den).tdiv (Int.gcd d q.den)) 1
def PG (d : Int) (l : List Rat) : Int := l.foldl (fun (g : Int) q => (Int.gcd g ((q.num * d).tdiv q.den) : Int)) 0
theorem Y8 {l : List Rat} {i : Nat} (h : i < l.length) : GJ (l.take (i + 1)) = (GJ (l.take i) * (nth l i).den).tdiv (Int.gcd (GJ (l.take i)) (nth l i).den) := by
 unfold GJ; rw [a9 h, List.foldl_append]; rfl
theorem Y9 {l : List Rat} {d : Int} {i : Nat} (h : i < l.length) : PG d (l.take (i + 1)) = (Int.gcd (PG d (l.take i)) (((nth l i).num * d).tdiv (nth l i).den) : Int) := by
 unfold PG; rw [a9 h, List.foldl_append]; rfl
theorem ZA (q : Rat) : RI (q.den : Int) = .ag [aJ aF (aR DD q.den), .bool false] := by
 simp [show ¬ ((q.den : Int) < 0) by omega]
def MV (l : List Rat) : Rat := if (nth l (l.length - 1)).num < 0 then -(cX (PG (GJ l) l) (GJ l)) else cX (PG (GJ l) l) (GJ l)
def qpr (l : List Rat) : List Rat := i5 l (1 / MV l)
theorem pF (l : List Rat) {k : Nat} (hk : k ≤ YY) (hk1 : 1 ≤ k) (hl : ∀ q ∈ l, ZR k q) (UQ : l.length < 1099511627776) (h0 : l ≠ [])
  (hd : ∀ i, sz 2 (GJ (l.take i)) ≤ k) (hd1 : ∀ i, 0 < GJ (l.take i)) (hg : ∀ i, sz 2 (PG (GJ l) (l.take i)) ≤ k)
  (hc : ZR YY (MV l)) (s8 : MV l ≠ 0) (sI : ZR YY (1 / MV l)) :
  aL env.P 191 [PP l] (.eN [RR (MV l), PP (qpr l)]) := by
 have hkY : k ≤ 137438953472 := hk
 have wX : 0 < l.length := List.length_pos_iff.2 h0
 refine aB (E := env) (fun _ => 0) [(0, PP l)] Tryz.func191 rfl (by kernel_rfl) (by kernel_rfl) (show 1 ≤ 75 by decide) (by simp) ?_
 refine W.sr ?_; simp (disch := omega) [gw]; refine W.lx [0, 2] ?_; simp
 refine W.seq ?_
 refine W.sr ?_; simp (disch := omega) [gw]; refine W.lx [0, 2, 11] ?_; simp
 refine W.cond ⟨_, rfl, fun h => ?_, fun h => ?_⟩
 ·exfalso; simp at h; exact h0 h
 refine W.skip ?_
 refine W.sr ?_
 simp (disch := omega) [gw]
 refine aA (nO 1 (by decide) (by decide)) ?_
 simp (disch := omega) [gw]
 refine W.lx [0, 2, 4] ?_; simp
 refine W.seq ?_
 refine W.sr ?_; simp (disch := omega) [gw]; refine W.lx [0, 2, 4, 15, 16] ?_; simp
 refine W.block ?_
 refine W.bB (fun n σ => ∃ (i : Nat) (d : Int) (rows : Pm.Rows) (clk : Nat), σ = ⟨fa [(0, PP l), (2, .ptr 2 0 0 0), (4, .ptr 4 1 0 0), (15, .int .i64 l.length), (16, .int .i64 i)], rows, clk⟩ ∧
  rows 2 = some ⟨0, 50, 4, [[.nil, .bool false, .nil, .bool false]]⟩ ∧ rows 4 = some ⟨1, 48, 2, [[aJ aF (aR DD d.natAbs), .bool (decide (d < 0))]]⟩ ∧ n = l.length - i ∧ i ≤ l.length ∧ d = GJ (l.take i)) l.length ?_ ?_
 ·exact ⟨_, .refl, 0, 1, _, _, rfl, by simp, by simp, by omega, by omega, by simp [GJ]⟩
 rintro n _ ⟨i, d, rows, clk, rfl, cT, jF, hn, hi, YA⟩
 refine W.sr ?_; simp (disch := omega) [gw]; refine W.lx [0, 2, 4, 15, 16, 17] ?_; simp
 refine W.seq ?_
 refine W.cond ⟨_, rfl, fun h => ?_, fun h => ?_⟩
 ·have hi : i < l.length := by simp at h; omega
  have hq := hl _ (bK hi)
  have hdi := hd i
  have hdp := hd1 i
  have hs := Y8 hi
  rw [← YA] at hs hdi hdp
  have hsn := hd (i + 1)
  have m1 := dO d (nth l i).den (by simp only [Z]; omega) (by have := hq.d; simp only [Z]; omega)
  have m2 := zO d (nth l i).den (by simp only [Y]; omega) (by have := hq.d; simp only [Y]; omega)
  have zm := bS (b := 2) (by decide) hdi hq.d
  have hgp : 0 < Int.gcd d (nth l i).den := Int.gcd_pos_of_ne_zero_left _ (by omega)
  have zg : Y (Int.gcd d (nth l i).den : Int) := zN (y := d) (by simp only [Y]; omega) (by
   have := Int.le_of_dvd hdp (Int.gcd_dvd_left d ((nth l i).den : Int)); omega)
  have m3 := tG (d * (nth l i).den) (Int.gcd d (nth l i).den) (by omega) (by simp only [Y]; omega) zg
  rw [← hs] at m3
  rw [ZA] at m1 m2
  generalize (Int.gcd d (nth l i).den : Int) = gg at *
  generalize d * ((nth l i).den : Int) = dd at *
  generalize RS : GJ (l.take (i + 1)) = d2 at *
  generalize TN : nth l i = q at *
  refine W.skip ?_
  refine W.seq ?_
  refine W.block ?_
  refine W.sr ?_; simp (disch := omega) [gw, TN]; refine W.lx [0, 2, 4, 5, 15, 16] ?_; simp
  refine W.HS (fun K hK => ?_)
  simp (disch := omega) [gw, jF, TN]
  refine aA m1 ?_
  simp (disch := omega) [gw, jF, TN]
  refine aA m2 ?_
  simp (disch := omega) [gw, jF, TN]
  refine aA m3 ?_
  simp (disch := omega) [gw, jF, TN]
  refine cP (by refine ⟨?_, ?_⟩ <;> kernel_rfl) ?_
  simp (disch := omega) [gw]
  refine W.lw [0, 2, 4, 15, 16] hK ?_; clear hK K; simp
  refine W.b9 (fun K hK => ?_); simp (disch := omega) [gw]
  refine hK _ ⟨l.length - (i + 1), _, aC _ [0, 2, 4, 15, 16], by omega, i + 1, d2, _, _, rfl, by simp [cT], by simp, by omega, by omega, RS.symm⟩
 have hi : i = l.length := by simp at h; omega
 subst hi
 rw [List.take_length] at YA
 have VV := hd l.length
 have hdp := hd1 l.length
 rw [List.take_length, ← YA] at VV hdp
 rw [← YA] at hg
 have hqc : MV l = if (nth l (l.length - 1)).num < 0 then -(cX (PG d l) d) else cX (PG d l) d := by rw [YA]; rfl
 refine W.exit ?_; simp only [pX, if_true, if_false, reduceIte, Nat.reduceEqDiff]
 refine W.sr ?_; simp (disch := omega) [gw]; refine W.lx [0, 2, 4, 6] ?_; simp
 refine W.row (id := 6) (els := [[.nil, .bool false]]) [[aJ aF (aR DD 0), .bool false]] (by simp; first | exact ⟨rfl, rfl, rfl⟩ | exact ⟨rfl, rfl, rfl, rfl⟩) ⟨⟨.inr ⟨rfl, rfl⟩, .inl rfl, trivial⟩, trivial⟩ ?_
 refine W.seq ?_
 refine W.sr ?_; simp (disch := omega) [gw]; refine W.lx [0, 2, 4, 6, 36, 37] ?_; simp
 refine W.block ?_
 clear YA
 refine W.bB (fun n σ => ∃ (i v6 : Nat) (g : Int) (rows : Pm.Rows) (clk : Nat), σ = ⟨fa [(0, PP l), (2, .ptr 2 0 0 0), (4, .ptr 4 1 0 0), (6, .ptr 6 v6 0 0), (36, .int .i64 l.length), (37, .int .i64 i)], rows, clk⟩ ∧
  rows 2 = some ⟨0, 50, 4, [[.nil, .bool false, .nil, .bool false]]⟩ ∧ rows 4 = some ⟨1, 48, 2, [[aJ aF (aR DD d.natAbs), .bool (decide (d < 0))]]⟩ ∧
  rows 6 = some ⟨v6, 48, 2, [[aJ aF (aR DD g.natAbs), .bool (decide (g < 0))]]⟩ ∧ n = l.length - i ∧ i ≤ l.length ∧ g = PG d (l.take i)) l.length ?_ ?_
 ·exact ⟨_, .refl, 0, _, 0, _, _, rfl, by simp [cT], by simp [jF], by simp, by omega, by omega, by simp [PG]⟩
 clear cT jF rows clk
 rintro n _ ⟨i, v6, g, rows, clk, rfl, cT, jF, tP, hn, hi, hgv⟩
 refine W.sr ?_; simp (disch := omega) [gw]; refine W.lx [0, 2, 4, 6, 36, 37, 38] ?_; simp
 refine W.seq ?_
 refine W.cond ⟨_, rfl, fun h => ?_, fun h => ?_⟩
 ·have hi : i < l.length := by simp at h; omega
  have hq := hl _ (bK hi)
  have hgi := hg i
  have hs := Y9 (d := d) hi
  rw [← hgv] at hs hgi
  have m1 := dO (nth l i).num d (by have := hq.n; simp only [Z]; omega) (by simp only [Z]; omega)
  have zm := bS (b := 2) (by decide) hq.n VV
  have m2 := tG ((nth l i).num * d) (nth l i).den (by have := (nth l i).den_nz; omega) (by simp only [Y]; omega) (by have := hq.d; simp only [Y]; omega)
  have zq : Y (((nth l i).num * d).tdiv (nth l i).den) := zN (y := (nth l i).num * d) (by simp only [Y]; omega) (by rw [Int.natAbs_tdiv]; exact Nat.div_le_self _ _)
  have m3 := zO g (((nth l i).num * d).tdiv (nth l i).den) (by simp only [Y]; omega) zq
  rw [← hs] at m3
  rw [ZA] at m2
  generalize ((nth l i).num * d).tdiv (nth l i).den = nq at *
  generalize (nth l i).num * d = nd at *
  generalize oP : PG d (l.take (i + 1)) = g2 at *
  generalize TN : nth l i = q at *
  refine W.skip ?_
  refine W.seq ?_
  refine W.block ?_
  refine W.sr ?_; simp (disch := omega) [gw, TN]; refine W.lx [0, 2, 4, 6, 7, 36, 37] ?_; simp
  refine W.HS (fun K hK => ?_)
  simp (disch := omega) [gw, jF, tP, TN]
  refine aA m1 ?_
  simp (disch := omega) [gw, jF, tP, TN]
  refine aA m2 ?_
  simp (disch := omega) [gw, jF, tP, TN]
  refine aA m3 ?_
  simp (disch := omega) [gw, jF, tP, TN]
  refine cP (by kernel_rfl) ?_
  simp (disch := omega) [gw]
  refine W.lw [0, 2, 4, 6, 36, 37] hK ?_; clear hK K; simp
  refine W.b9 (fun K hK => ?_); simp (disch := omega) [gw]
  refine hK _ ⟨l.length - (i + 1), _, aC _ [0, 2, 4, 6, 36, 37], by omega, i + 1, v6, g2, _, _, rfl, by simp [cT], by simp [jF], by simp, by omega, by omega, oP.symm⟩
 have hi : i = l.length := by simp at h; omega
 subst hi
 rw [List.take_length] at hgv
 have hgl := hg l.length
 rw [List.take_length] at hgl
 rw [← hgv] at hgl hqc
 have hMk := kY g d (by simp only [Y]; omega) (by simp only [Y]; omega)
 have hNg := YQ (cX g d)
 have hQ := IQ 1 (MV l) ⟨by show sz 2 1 ≤ YY; exact Nat.le_trans (cS (k := 1) (by decide) (by decide)) (by decide), by show sz 2 1 ≤ YY; exact Nat.le_trans (cS (k := 1) (by decide) (by decide)) (by decide)⟩ hc s8
 have hOf := tJ 1 1 (by decide) (by decide)
 rw [kF, show (((1 : Int)) : Rat) = 1 by simp] at hOf
 have hSc := nQ l (1 / MV l) ⟨fun q hq => ⟨Nat.le_trans (hl q hq).n hk, Nat.le_trans (hl q hq).d hk⟩, UQ⟩ sI
 rw [show i5 l (1 / MV l) = qpr l from rfl] at hSc
 have e1 : ((l.length : Int) - 1).toNat = l.length - 1 := by omega
 generalize qpr l = pr at *
 generalize gO : (1 : Rat) = one at *
 generalize one / MV l = ic at *
 generalize MV l = cc at *
 generalize hqm : cX g d = c0 at *
 generalize TN : nth l (l.length - 1) = q at *
 refine W.exit ?_; simp only [pX, if_true, if_false, reduceIte, Nat.reduceEqDiff]
 refine W.sr ?_
 simp (disch := omega) [gw, jF, tP]
 refine aA hMk ?_
 simp (disch := omega) [gw]
 refine W.lx [0, 2, 8] ?_; simp
 refine W.fQ (fun σ => ∃ (v8 : Nat) (rows : Pm.Rows) (clk : Nat), σ = ⟨fa [(0, PP l), (2, .ptr 2 0 0 0), (8, .ptr 8 v8 0 0)], rows, clk⟩ ∧ rows 2 = some ⟨0, 50, 4, [[.nil, .bool false, .nil, .bool false]]⟩ ∧ rows 8 = some ⟨v8, 50, 4, [re cc]⟩) ?_ ?_
 ·refine W.sr ?_; simp (disch := omega) [gw, e1, TN]; refine W.lx [0, 2, 8, 66] ?_; simp
  refine W.XF (q.num < 0) rfl (fun h => ?_) (fun h => ?_)
  ·rw [if_pos h] at hqc
   rw [← hqc] at hNg
   refine W.b9 (fun K hK => ?_)
   simp (disch := omega) [gw]
   refine aA hNg ?_
   simp (disch := omega) [gw]
   exact hK _ ⟨_, aC _ [0, 2, 8], _, _, _, rfl, by simp [cT], by simp⟩
  ·rw [if_neg h] at hqc
   refine W.skip ?_
   exact ⟨_, aC _ [0, 2, 8], _, _, _, rfl, by simp [cT], by simp [hqc]⟩
 clear cT jF tP rows clk
 rintro _ ⟨v8, rows, clk, rfl, cT, w9⟩
 refine W.sd ?_
 simp (disch := omega) [gw, w9]
 refine aA hOf ?_
 simp (disch := omega) [gw, w9]
 refine aA hQ ?_
 simp (disch := omega) [gw, w9]
 refine aA hSc ?_
 simp (disch := omega) [gw, cT, w9]
 refine W.lx [2, 3] ?_; simp
 refine W.ret ?_
 simp [go]
theorem adF (x : List Int) (hx : ∀ c ∈ x, Z c) (hl : x.length < 1099511627776) : aL env.P 22 [PI x] (Po x) := by
 refine aB (E := env) (fun _ => 0) [(0, PI x)] Tryz.func22 rfl (by kernel_rfl) (by kernel_rfl) (show 1 ≤ 21 by decide) (by simp) ?_
 refine W.sr ?_; simp (disch := omega) [gw]; refine W.lx [0] ?_; simp
 refine W.sr ?_; simp (disch := omega) [gw]; refine W.lx [0, 3] ?_; simp
 refine W.nil 3 3 40 2 (by simp) (by decide) (fun K hK => ?_)
 refine W.lw [0, 3] hK ?_; clear hK K; simp
 refine W.seq ?_
 refine W.sr ?_; simp (disch := omega) [gw]; refine W.lx [0, 3, 6, 7] ?_; simp
 refine W.block ?_
 refine W.bB (fun k σ => ∃ (i ver : Nat) (rows : Pm.Rows) (clk : Nat), σ = ⟨fa [(0, PI x), (3, .own 3 ver 0 i), (6, .int .i64 x.length), (7, .int .i64 i)], rows, clk⟩ ∧ rows 3 = some ⟨ver, 40, 2, emap ie (x.take i)⟩ ∧ k = x.length - i ∧ i ≤ x.length) x.length ?_ ?_
 ·exact ⟨_, .refl, 0, _, _, _, rfl, by simp [emap], by omega, by omega⟩
 rintro k _ ⟨i, ver, rows, clk, rfl, hr, hk, hi⟩
 refine W.sr ?_; simp (disch := omega) [gw]; refine W.lx [0, 3, 6, 7, 8] ?_; simp
 refine W.seq ?_
 refine W.cond ⟨_, rfl, fun h0 => ?_, fun h0 => ?_⟩
 ·have h0 : i < x.length := by simp at h0; omega
  have eT : (x.take i).length = i := by simp; omega
  have hT := adn (nth x i) (hx _ (bK h0))
  refine W.skip ?_
  refine W.seq ?_
  refine W.block ?_
  refine W.sr ?_; simp (disch := omega) [gw]; refine W.lx [0, 3, 4, 6, 7] ?_; simp
  refine W.b9 (fun K hK => ?_)
  simp (disch := omega) [gw]
  refine aA hT ?_
  simp (disch := omega) [gw, hr, eT]
  refine W.lw [0, 3, 6, 7] hK ?_; clear hK K; simp
  refine W.b9 (fun K hK => ?_); simp (disch := omega) [gw]
  refine hK _ ⟨x.length - (i + 1), _, aC _ [0, 3, 6, 7], by omega, i + 1, _, _, _, rfl, ?_, by omega, by omega⟩
  rw [a9 h0]
  simp
 ·have gT : i = x.length := by simp at h0; omega
  subst gT
  rw [List.take_length] at hr
  refine W.exit ?_; simp only [pX, if_true, if_false, reduceIte, Nat.reduceEqDiff]
  refine W.sr ?_
  simp (disch := omega) [gw, hr]
  refine W.lx [2] ?_; simp
  refine W.ret ?_
  simp [go, hr]
theorem EZ (x : List Int) : GJ (qs x) = 1 := by
 have key : ∀ l : List Int, (qs l).foldl (fun (d : Int) q => (d * q.den).tdiv (Int.gcd d q.den)) 1 = 1 := by
  intro l
  induction l with
  | nil => rfl
  | cons a l ih =>
   simp only [qs, List.map_cons, List.foldl_cons, Rat.den_intCast] at ih ⊢
   exact ih
 exact key x
theorem ZB (x : List Int) : PG 1 (qs x) = bH x := by
 have key : ∀ (l : List Int) (g : Nat), (qs l).foldl (fun (g : Int) q => (Int.gcd g ((q.num * 1).tdiv q.den) : Int)) g = (l.foldl (fun g c => Nat.gcd g c.natAbs) g : Nat) := by
  intro l
  induction l with
  | nil => intro g; rfl
  | cons a l ih =>
   intro g
   have := ih (Nat.gcd g a.natAbs)
   simp only [qs, List.map_cons, List.foldl_cons, Rat.den_intCast, Rat.num_intCast] at this ⊢
   rw [← this]
   congr 1
   simp [Int.gcd]
 exact key x 0
theorem E0 (x : List Int) (i : Nat) : (qs x).take i = qs (x.take i) := by simp [qs, List.map_take]
theorem zY {x : List Int} (hx : 0 < x.length) : MV (qs x) = (jR x : Rat) := by
 have e : (nth (qs x) ((qs x).length - 1)).num = lead x := by rw [YT]; simp [lead]
 unfold MV jR
 rw [EZ, ZB, kF, e]
 split
 ·rw [Rat.intCast_neg]
 ·rfl
theorem aiQ {x : List Int} (cx : Cn x) (hx : x ≠ []) : qpr (qs x) = qs (pE x) := by
 have n8 := List.length_pos_iff.2 hx
 have h0 := lU x
 have gx := bV cx hx
 have hp : jR x ≠ 0 := by omega
 have hc := fB hp
 rw [qpr, zY n8, i5, pE, ← tK]
 congr 1
 simp only [qs, List.map_map]
 refine List.map_congr_left fun v hv => ?_
 simp only [Function.comp_apply]
 have hd := EU x v hv
 obtain ⟨w, rfl⟩ := hd
 have : oF (jR x) (jR x * w) = w := by
  unfold oF
  rw [if_pos (Int.mul_emod_right _ _)]
  exact Int.mul_ediv_cancel_left _ hp
 rw [this, Rat.intCast_mul]
 grind
theorem kG {x : List Int} {s : Nat} (hs : ∀ c ∈ x, sz 2 c ≤ s) : sz 2 (bH x : Int) ≤ s := by
 by_cases h : ∃ c ∈ x, c ≠ 0
 ·obtain ⟨c, hc, h0⟩ := h
  refine Nat.le_trans (cU (by decide) ?_) (hs c hc)
  have := Int.le_of_dvd (a := (bH x : Int)) (b := (c.natAbs : Int)) (by omega) (Int.dvd_natAbs.2 (fV x _ hc))
  omega
 ·have h1 : bH x = 0 := by
   have h2 : (0 : Nat) ∣ bH x := zV fun c hc => by
    have : c = 0 := Classical.byContradiction fun h3 => h ⟨c, hc, h3⟩
    rw [this]; exact Int.dvd_refl _
   exact Nat.eq_zero_of_zero_dvd h2
  rw [h1]; show sz 2 0 ≤ s; rw [i3]; omega
theorem zZ (x : List Int) {s n : Nat} (hx : Bd 2 s n x) (cx : Cn x) (p5 : 1 ≤ s) (hs : s ≤ YY) (hn : n < 1099511627776) : aL env.P 191 [PI x] (.eN [.ag (ri (jR x)), PI (pE x)]) := by
 have hlx := hx.len
 by_cases h0 : x = []
 ·subst h0
  have hz := p7
  rw [show jR ([] : List Int) = 0 by decide, show pE ([] : List Int) = [] from rfl]
  refine aB (E := env) (fun _ => 0) [(0, PI [])] Tryz.func191 rfl (by kernel_rfl) (by kernel_rfl) (show 1 ≤ 75 by decide) (by simp) ?_
  refine W.sr ?_; simp (disch := omega) [gw]; refine W.lx [0, 2] ?_; simp
  refine W.seq ?_
  refine W.sr ?_; simp (disch := omega) [gw]; refine W.lx [0, 2, 11] ?_; simp
  refine W.cond ⟨_, rfl, fun h => ?_, fun h => ?_⟩
  ·refine W.sr ?_
   simp (disch := omega) [gw]
   refine aA hz ?_
   simp (disch := omega) [gw]
   refine W.lx [2, 3] ?_; simp
   refine W.ret ?_
   simp [go]
   all_goals rfl
  ·simp at h
 ·have n8 := List.length_pos_iff.2 h0
  have hp := lU x
  have gx := bV cx h0
  have hp0 : jR x ≠ 0 := by omega
  have hgs : ∀ i, sz 2 (bH (x.take i) : Int) ≤ s := fun i => kG fun c hc => hx.sz c (List.mem_of_mem_take hc)
  have wD : sz 2 (jR x) ≤ s := by
   have := kG hx.sz
   unfold jR; split
   ·rw [nJ]; exact this
   ·exact this
  have s1 : sz 2 1 ≤ 1 := cS (by decide) (by decide)
  have zc : ZR YY (jR x : Rat) := nP (Nat.le_trans wD hs) (by decide)
  have e1 : (1 : Rat) / (jR x : Rat) = cX 1 (jR x) := by rw [dX hp0]; simp
  have := pF (qs x) hs p5 (fun q hq => by
   simp only [qs, List.mem_map] at hq
   obtain ⟨c, hc, rfl⟩ := hq
   exact nP (hx.sz c hc) p5) (by simp; omega) (by simpa [qs] using h0)
   (fun i => by rw [E0, EZ]; omega) (fun i => by rw [E0, EZ]; decide) (fun i => by rw [EZ, E0, ZB]; exact hgs i)
   (by rw [zY n8]; exact zc) (by rw [zY n8]; exact fB hp0) (by rw [zY n8, e1]; exact rU hp0 (by show sz 2 1 ≤ 137438953472; omega) (Nat.le_trans wD hs))
  rw [zY n8, aiQ cx h0, n9, n9, RR, iC] at this
  exact this
theorem TO {D a b : Nat} (hD : 0 < D) (ha : a ∣ D) (hb : b ∣ D) : Nat.lcm (D / a) (D / b) = D / Nat.gcd a b := by
 have ha0 : 0 < a := Nat.pos_of_dvd_of_pos ha hD
 have XK : 0 < b := Nat.pos_of_dvd_of_pos hb hD
 have hg : 0 < Nat.gcd a b := Nat.gcd_pos_of_pos_left _ ha0
 obtain ⟨a', b', hc, ea, eb⟩ := Nat.exists_coprime a b
 generalize Nat.gcd a b = g at *
 obtain ⟨p, hp⟩ := ha
 obtain ⟨q, hq⟩ := hb
 have h1 : a' * p = b' * q := by
  have : g * (a' * p) = g * (b' * q) := by rw [ea] at hp; rw [eb] at hq; grind
  exact Nat.eq_of_mul_eq_mul_left hg this
 have h2 : a' ∣ q := hc.dvd_of_dvd_mul_left (by rw [← h1]; exact Nat.dvd_mul_right _ _)
 obtain ⟨m, rfl⟩ := h2
 have atp : 0 < a' := by
  rcases Nat.eq_zero_or_pos a' with h | h
  ·rw [h] at ea; omega
  ·exact h
 have h3 : p = b' * m := by
  have : a' * p = a' * (b' * m) := by rw [h1]; grind
  exact Nat.eq_of_mul_eq_mul_left atp this
 subst h3
 have e1 : D / a = b' * m := by rw [hp]; exact Nat.mul_div_cancel_left _ ha0
 have e2 : D / b = a' * m := by rw [hq]; exact Nat.mul_div_cancel_left _ XK
 have e3 : D / g = a' * b' * m := by
  rw [hp, ea, show a' * g * (b' * m) = g * (a' * b' * m) by grind]
  exact Nat.mul_div_cancel_left _ hg
 rw [e1, e2, e3, Nat.lcm_mul_right, Nat.lcm_comm, Nat.lcm, show a'.gcd b' = 1 from hc, Nat.div_one]
theorem ZC (n : Nat) (q : Rat) : ((n : Int) * q.den).tdiv (Int.gcd n q.den) = (Nat.lcm n q.den : Nat) := by
 have : Int.gcd (n : Int) (q.den : Int) = Nat.gcd n q.den := rfl
 rw [this, ← Int.natCast_mul, ← Int.ofNat_tdiv]
 rfl
theorem wG {v : Int} {D : Nat} (hD : 0 < D) : (cX v D).den = D / Nat.gcd D v.natAbs := by
 have h := tI v D (by omega)
 have h2 : ¬ (D : Int) < 0 := by omega
 simp only [h2, if_false] at h
 have : Int.gcd v (D : Int) = Nat.gcd D v.natAbs := by rw [Int.gcd, Nat.gcd_comm]; rfl
 rw [this] at h
 exact_mod_cast h
theorem wH {v : Int} {D : Nat} (hD : 0 < D) : (cX v D).num = v / (Nat.gcd D v.natAbs : Nat) := by
 have h := tH v D (by omega)
 have h2 : ¬ (D : Int) < 0 := by omega
 simp only [h2, if_false] at h
 have : Int.gcd v (D : Int) = Nat.gcd D v.natAbs := by rw [Int.gcd, Nat.gcd_comm]; rfl
 rw [this] at h
 exact h
def U0 (D : Nat) (x : List Int) : Nat := Nat.gcd D (bH x)
theorem E1 {D : Nat} (hD : 0 < D) (x : List Int) : GJ (qd x D) = (D / U0 D x : Nat) := by
 have key : ∀ (l : List Int) (g : Nat), g ∣ D → (qd l D).foldl (fun (d : Int) q => (d * q.den).tdiv (Int.gcd d q.den)) (D / g : Nat) = (D / (l.foldl (fun g c => Nat.gcd g c.natAbs) g) : Nat) := by
  intro l
  induction l with
  | nil => intro g _; rfl
  | cons a l ih =>
   intro g hg
   have h1 := ih (Nat.gcd g a.natAbs) (Nat.dvd_trans (Nat.gcd_dvd_left _ _) hg)
   simp only [qd, List.map_cons, List.foldl_cons] at h1 ⊢
   rw [ZC, wG hD, TO hD hg (Nat.gcd_dvd_left _ _)]
   rw [show Nat.gcd g (Nat.gcd D a.natAbs) = Nat.gcd g a.natAbs by rw [← Nat.gcd_assoc, Nat.gcd_eq_left hg]]
   exact h1
 have h2 : ∀ (l : List Int) (g : Nat), l.foldl (fun g c => Nat.gcd g c.natAbs) g = Nat.gcd g (bH l) := by
  intro l
  unfold bH
  induction l with
  | nil => intro g; simp
  | cons a l ih =>
   intro g
   simp only [List.foldl_cons]
   rw [ih, ih (Nat.gcd 0 a.natAbs), Nat.gcd_zero_left, Nat.gcd_assoc]
 have h3 := key x D (Nat.dvd_refl _)
 rw [Nat.div_self hD, h2] at h3
 exact h3
theorem ZD {D : Nat} (hD : 0 < D) (x : List Int) {G : Nat} (hG : G ∣ D) (hx : ∀ c ∈ x, (G : Int) ∣ c) : PG (D / G : Nat) (qd x D) = (bH x / G : Nat) := by
 have hG0 : 0 < G := Nat.pos_of_dvd_of_pos hG hD
 have key : ∀ (l : List Int) (g : Nat), (∀ c ∈ l, (G : Int) ∣ c) → G ∣ g → (qd l D).foldl (fun (g : Int) q => (Int.gcd g ((q.num * ((D / G : Nat) : Int)).tdiv q.den) : Int)) (g / G : Nat) = ((l.foldl (fun g c => Nat.gcd g c.natAbs) g) / G : Nat) := by
  intro l
  induction l with
  | nil => intro g _ _; rfl
  | cons a l ih =>
   intro g hl hg
   have ha : G ∣ a.natAbs := Int.ofNat_dvd_left.1 (hl a (by simp))
   have h1 := ih (Nat.gcd g a.natAbs) (fun c hc => hl c (by simp [hc])) (Nat.dvd_gcd hg ha)
   simp only [qd, List.map_cons, List.foldl_cons] at h1 ⊢
   have e : ((cX a D).num * ((D / G : Nat) : Int)).tdiv (cX a D).den = a / (G : Int) := by
    rw [wH hD, wG hD]
    have hd1 : Nat.gcd D a.natAbs ∣ D := Nat.gcd_dvd_left _ _
    have RS : Nat.gcd D a.natAbs ∣ a.natAbs := Nat.gcd_dvd_right _ _
    have hgp : 0 < Nat.gcd D a.natAbs := Nat.gcd_pos_of_pos_left _ hD
    generalize Nat.gcd D a.natAbs = k at *
    obtain ⟨m, hm⟩ := hd1
    obtain ⟨n, hn⟩ : (k : Int) ∣ a := Int.ofNat_dvd_left.2 RS
    obtain ⟨p, hp⟩ := hG
    obtain ⟨r, hr⟩ := hl a (by simp)
    have KF : 0 < m := by
     rcases Nat.eq_zero_or_pos m with h | h
     ·rw [h] at hm; omega
     ·exact h
    rw [show a / (k : Int) = n by rw [hn]; exact Int.mul_ediv_cancel_left _ (by omega), show D / G = p by rw [hp]; exact Nat.mul_div_cancel_left _ hG0, show D / k = m by rw [hm]; exact Nat.mul_div_cancel_left _ hgp,
     show a / (G : Int) = r by rw [hr]; exact Int.mul_ediv_cancel_left _ (by omega)]
    have e2 : n * (p : Int) = m * r := by
     have hDI : (k : Int) * m = G * p := by exact_mod_cast hm.symm.trans hp
     have hk : (k : Int) * n = G * r := hn.symm.trans hr
     have vZ : (k : Int) ≠ 0 := by omega
     have hG1 : (G : Int) ≠ 0 := by omega
     have : (k : Int) * G * (n * p) = k * G * (m * r) := by
      have e3 : (k : Int) * G * (n * p) = (k * n) * (G * p) := by grind
      rw [e3, hk, ← hDI]; grind
     exact Int.eq_of_mul_eq_mul_left (Int.mul_ne_zero vZ hG1) this
    rw [e2]
    exact Int.mul_tdiv_cancel_left _ (by omega)
   rw [e, show Int.gcd ((g / G : Nat) : Int) (a / (G : Int)) = Nat.gcd g a.natAbs / G from ?_]
   ·exact h1
   ·rw [Int.gcd, Int.natAbs_natCast, ← Nat.gcd_div hg ha]
    congr 1
    obtain ⟨r, hr⟩ := hl a (by simp)
    rw [hr, Int.mul_ediv_cancel_left _ (show (G : Int) ≠ 0 by omega), Int.natAbs_mul, Int.natAbs_natCast, Nat.mul_div_cancel_left _ hG0]
 have := key x 0 hx (Nat.dvd_zero _)
 rw [Nat.zero_div] at this
 exact this
theorem tQ (D : Nat) (x : List Int) : U0 D x ∣ D := Nat.gcd_dvd_left _ _
theorem PH {D : Nat} (hD : 0 < D) (x : List Int) : 0 < U0 D x := Nat.gcd_pos_of_pos_left _ hD
theorem PJ (D : Nat) (x : List Int) : ∀ c ∈ x, ((U0 D x : Nat) : Int) ∣ c := fun c hc => Int.dvd_trans (Int.ofNat_dvd.2 (Nat.gcd_dvd_right _ _)) (fV x c hc)
theorem wI {v : Int} {D : Nat} (hD : 0 < D) : (cX v D).num < 0 ↔ v < 0 := by
 rw [wH hD]
 have hg : 0 < Nat.gcd D v.natAbs := Nat.gcd_pos_of_pos_left _ hD
 obtain ⟨n, hn⟩ : ((Nat.gcd D v.natAbs : Nat) : Int) ∣ v := Int.ofNat_dvd_left.2 (Nat.gcd_dvd_right _ _)
 generalize Nat.gcd D v.natAbs = g at *
 rw [hn, Int.mul_ediv_cancel_left _ (show (g : Int) ≠ 0 by omega)]
 constructor
 ·intro h; exact Int.mul_neg_of_pos_of_neg (by omega) h
 ·intro h
  rcases Int.lt_or_le n 0 with h1 | h1
  ·exact h1
  ·have := Int.mul_nonneg (show (0 : Int) ≤ g by omega) h1
   omega
theorem ZE {D : Nat} (hD : 0 < D) {x : List Int} (hx : 0 < x.length) : MV (qd x D) = cX (jR x) D := by
 have CZ : (D : Int) ≠ 0 := by omega
 have e : (nth (qd x D) ((qd x D).length - 1)).num < 0 ↔ lead x < 0 := by
  rw [EW CZ, wI hD]; simp [lead]
 have hG := PH hD x
 have e2 : cX (PG (GJ (qd x D)) (qd x D)) (GJ (qd x D)) = cX (bH x) D := by
  rw [E1 hD, ZD hD x (tQ D x) (PJ D x)]
  have h1 : D / U0 D x * U0 D x = D := Nat.div_mul_cancel (tQ D x)
  have h2 : bH x / U0 D x * U0 D x = bH x := Nat.div_mul_cancel (Nat.gcd_dvd_right _ _)
  have h3 : 0 < D / U0 D x := Nat.div_pos (Nat.le_of_dvd hD (tQ D x)) hG
  have h4 := PE (v := (bH x / U0 D x : Nat)) (D := (D / U0 D x : Nat)) (l := (U0 D x : Nat)) (by omega) (by omega)
  rw [← Int.natCast_mul, ← Int.natCast_mul, h1, h2] at h4
  exact h4.symm
 unfold MV jR
 rw [e2]
 by_cases h : lead x < 0
 ·rw [if_pos (e.2 h), if_pos h, ← PF CZ]; grind
 ·rw [if_neg (fun h2 => h (e.1 h2)), if_neg h]
theorem PL {v D : Int} (hD : D ≠ 0) (hv : v ≠ 0) : 1 / cX v D = cX D v := by
 rw [dX hD, dX hv]
 have h1 := fB hD
 have h2 := fB hv
 grind
theorem MW {x : List Int} (cx : Cn x) (hx : x ≠ []) : jR x ≠ 0 := by
 have h0 := lU x
 have gx := bV cx hx
 omega
theorem aiS {D : Nat} (hD : 0 < D) {x : List Int} (cx : Cn x) (hx : x ≠ []) : qpr (qd x D) = qs (pE x) := by
 have n8 := List.length_pos_iff.2 hx
 have CZ : (D : Int) ≠ 0 := by omega
 have hp := MW cx hx
 have hc := fB hp
 have hDc := fB CZ
 rw [qpr, ZE hD n8, PL CZ hp, i5, pE, ← tK]
 congr 1
 simp only [qd, qs, List.map_map]
 refine List.map_congr_left fun v hv => ?_
 simp only [Function.comp_apply]
 obtain ⟨w, rfl⟩ := EU x v hv
 have : oF (jR x) (jR x * w) = w := by
  unfold oF
  rw [if_pos (Int.mul_emod_right _ _)]
  exact Int.mul_ediv_cancel_left _ hp
 rw [this, dX CZ, dX hp, Rat.intCast_mul]
 grind
theorem I7 (x : List Int) : iR x = if lead x < 0 then fD (pE x) else pE x := by
 unfold pE jR
 split
 ·have e : ∀ v, oF (-(bH x : Int)) v = - oF (bH x) v := fun v => by
   unfold oF
   rw [Int.emod_neg, Int.ediv_neg]
   split <;> simp
  refine Cn.ext (Cn.cut _) (Cn.fD _) fun t => ?_
  rw [y5, cA, iR, cA]
  have h1 := fG (t := t) (-1) (oF (bH x)) x
  have h2 : (x.map fun v => oF (bH x) v * -1) = x.map (oF (-(bH x : Int))) := List.map_congr_left fun v _ => by rw [e]; omega
  rw [h2] at h1
  rw [h1]; omega
 ·rfl
theorem MX (x : List Int) (D : Nat) (hD : 0 < D) {s n : Nat} (hx : Bd 2 s n x) (sD : sz 2 D ≤ s) (cx : Cn x) (h0 : x ≠ []) (p5 : 1 ≤ s) (hs : s ≤ YY) (hn : n < 1099511627776) :
  aL env.P 191 [PP (qd x D)] (.eN [RR (cX (jR x) D), PI (pE x)]) := by
 have CZ : (D : Int) ≠ 0 := by omega
 have n8 := List.length_pos_iff.2 h0
 have hp := MW cx h0
 have hlen := hx.len
 have sdiv : ∀ (a b : Nat), sz 2 (a : Int) ≤ s → sz 2 ((a / b : Nat) : Int) ≤ s := fun a b h => Nat.le_trans (cU (by decide) (by rw [Int.natAbs_natCast, Int.natAbs_natCast]; exact Nat.div_le_self a b)) h
 have spc : sz 2 (jR x) ≤ s := by
  have := kG hx.sz
  refine Nat.le_trans (cU (by decide) (Nat.le_of_eq ?_)) this
  rw [lU]; rfl
 have tk : ∀ i, (qd x D).take i = qd (x.take i) D := fun i => by simp [qd, List.map_take]
 have hc := ZE hD n8
 have h1 := pF (qd x D) (k := s) hs p5 (fun q hq => by
   simp only [List.mem_map] at hq
   obtain ⟨v, hv, rfl⟩ := hq
   exact rU CZ (hx.sz v hv) sD) (by simp; omega) (by simpa using h0)
  (fun i => by rw [tk, E1 hD]; exact sdiv _ _ sD)
  (fun i => by
   rw [tk, E1 hD]
   have := Nat.div_pos (Nat.le_of_dvd hD (tQ D (x.take i))) (PH hD _)
   omega)
  (fun i => by
   rw [tk, E1 hD, ZD hD (x.take i) (tQ D x) (fun c hc => PJ D x c (List.mem_of_mem_take hc))]
   exact sdiv _ _ (kG fun c hc => hx.sz c (List.mem_of_mem_take hc)))
  (by rw [hc]; exact rU CZ (Nat.le_trans spc hs) (Nat.le_trans sD hs))
  (by rw [hc]; exact fun h => hp ((wF CZ).1 h))
  (by rw [hc, PL CZ hp]; exact rU hp (Nat.le_trans sD hs) (Nat.le_trans spc hs))
 rw [hc, aiS hD cx h0, n9] at h1
 exact h1
theorem ZF {x : List Int} {s n : Nat} (hx : Bd 2 s n x) : Bd 2 s n (pE x) := Bd.cut ⟨by simpa using hx.len, fun c hc => by
 simp only [List.mem_map] at hc
 obtain ⟨v, hv, rfl⟩ := hc
 refine Nat.le_trans (cU (by decide) ?_) (hx.sz v hv)
 unfold oF
 split
 ·exact Int.natAbs_ediv_le_natAbs _ _
 ·simp⟩
theorem I8 (x : List Int) (D : Nat) (hD : 0 < D) {s n : Nat} (hx : Bd 2 s n x) (sD : sz 2 D ≤ s) (cx : Cn x) (p5 : 1 ≤ s) (hs : s ≤ YY) (hn : n < 1099511627776) :
  aL env.P 124 [PP (qd x D)] (PI (iR x)) := by
 have CZ : (D : Int) ≠ 0 := by omega
 have bp := ZF hx
 have hN := CW (pE x) (bp.mono hs (by omega))
 rw [I7]
 have hP : ∃ q : Rat, aL env.P 191 [PP (qd x D)] (.eN [RR q, PI (pE x)]) ∧ (q.num < 0 ↔ lead x < 0) := by
  by_cases h0 : x = []
  ·subst h0
   refine ⟨(jR [] : Int), ?_, ?_⟩
   ·have := zZ [] hx cx p5 hs hn
    rw [RR, iC]
    exact this
   ·rw [show jR ([] : List Int) = 0 by decide]; decide
  ·refine ⟨_, MX x D hD hx sD cx h0 p5 hs hn, ?_⟩
   rw [wI hD]
   have gx := bV cx h0
   unfold jR
   split <;> omega
 obtain ⟨q, hP, hq⟩ := hP
 generalize pE x = y at *
 generalize qd x D = l at *
 refine aB (E := env) (fun _ => 0) [(0, PP l)] Tryz.func124 rfl (by kernel_rfl) (by kernel_rfl) (show 1 ≤ 16 by decide) (by simp) ?_
 refine W.sr ?_; simp (disch := omega) [gw]; refine W.lx [0] ?_; simp
 refine W.sr ?_
 simp (disch := omega) [gw]
 refine aA hP ?_
 simp (disch := omega) [gw]
 refine W.lx [3, 4] ?_; simp
 refine W.seq ?_
 refine W.sr ?_; simp (disch := omega) [gw]; refine W.lx [4, 12] ?_; simp
 refine W.cond ⟨_, rfl, fun h => ?_, fun h => ?_⟩
 ·simp at h
  rw [if_pos (hq.1 h)]
  refine W.sr ?_
  simp (disch := omega) [gw]
  refine aA hN ?_
  simp (disch := omega) [gw]
  refine W.lx [2] ?_; simp
  refine W.ret ?_
  simp [go]
 ·have h : ¬ q.num < 0 := by simpa using h
  rw [if_neg (fun h2 => h (hq.2 h2))]
  refine W.skip ?_
  refine W.sr ?_; simp (disch := omega) [gw]; refine W.lx [2] ?_; simp
  refine W.ret ?_
  simp [go]
theorem I9 (x y : List Int) {s s' N : Nat} (hx : Bd 2 s N x) (hy : Bd 2 s' N y) (cx : Cn x) (cy : Cn y) (MD : 0 < y.length) (hs : 1 ≤ s) (hB : s + (N + 1) * (s' + N + 2) + s' + N + N + 10 < 137438953472) :
  aL env.P 172 [PP (qs x), PP (qs y)] (.eN [PP (qd (aM (Y6 x y).Q) (Y6 x y).D), PP (qd (Y6 x y).r (Y6 x y).D)]) := by
 have hNx := hx.len
 have hNy := hy.len
 have hl := cI cy MD
 have hls := fA hy
 have hM : x.length + 1 ≤ N + 1 := by omega
 refine aB (E := env) (fun id => if id = 17 then 2 else 0) [(0, PP (qs x)), (1, PP (qs y))] Tryz.func172 rfl (by kernel_rfl) (by kernel_rfl) (show 2 ≤ 84 by decide) (by simp) ?_
 obtain ⟨R0, G1⟩ : ∃ R0, R0 = TM y (x.length + 1) ⟨List.replicate (iA x y) 0, x, 1⟩ := ⟨_, rfl⟩
 rw [show Y6 x y = R0 from G1.symm]
 have hkN : iA x y ≤ N := by unfold iA; omega
 have hkk : (if (x.length : Int) - (y.length : Int) + 1 < 0 then 0 else (x.length : Int) - (y.length : Int) + 1) = (iA x y : Int) := by unfold iA; split <;> omega
 have hI0 : rV x y ⟨List.replicate (iA x y) 0, x, 1⟩ := rV.start cx
 generalize vZ : iA x y = k0 at *
 obtain ⟨a0, ha0⟩ : ∃ a0, a0 = qs x := ⟨_, rfl⟩
 obtain ⟨yq, hyq⟩ : ∃ yq, yq = qs y := ⟨_, rfl⟩
 have la0 : a0.length = x.length := by rw [ha0]; simp
 have lyq : yq.length = y.length := by rw [hyq]; simp
 rw [← ha0, ← hyq]
 refine W.sr ?_; simp (disch := omega) [gw]; refine W.lx [0, 1] ?_; simp
 refine W.sr ?_
 simp (disch := omega) [gw, la0, lyq, hkk]
 refine W.lx [0, 1, 6] ?_; simp
 refine W.seq ?_
 refine W.sr ?_; simp (disch := omega) [gw]; refine W.lx [0, 1, 6, 21, 22] ?_; simp
 refine W.block ?_
 refine W.bB (fun k σ => ∃ (i ver : Nat) (els : List (List PV)) (rows : Pm.Rows) (clk : Nat), σ = ⟨fa [(0, PP a0), (1, PP yq), (6, .own 19 ver 0 k0), (21, .int .i64 k0), (22, .int .i64 i)], rows, clk⟩ ∧
  rows 19 = some ⟨ver, 50, 4, els⟩ ∧ els.length = k0 ∧ (∀ e ∈ els, e.length = 4) ∧ els.take i = emap ri (List.replicate i 0) ∧ k = k0 - i ∧ i ≤ k0) k0 ?_ ?_
 ·exact ⟨_, .refl, 0, _, List.replicate k0 [.nil, .bool false, .nil, .bool false], _, _, rfl, by simp, by simp, by simp, by simp [emap], by omega, by omega⟩
 rintro k _ ⟨i, ver, els, rows, clk, rfl, hr, m6, IZ, zU, hk, hi⟩
 have SR : bC 4 els = True := by simp only [bC, eq_iff_iff, iff_true]; exact IZ
 refine W.sr ?_; simp (disch := omega) [gw]; refine W.lx [0, 1, 6, 21, 22, 23] ?_; simp
 refine W.seq ?_
 refine W.cond ⟨_, rfl, fun h => ?_, fun h => ?_⟩
 ·have h : i < k0 := by simp at h; omega
  refine W.skip ?_
  refine W.seq ?_
  refine W.block ?_
  refine W.sr ?_; simp (disch := omega) [gw]; refine W.lx [0, 1, 6, 7, 21, 22] ?_; simp
  refine W.b9 (fun K hK => ?_)
  simp (disch := omega) [gw]
  refine aA p7 ?_
  have uK : i < els.length := by omega
  have hE : sU els i 4 = True := by
   simp only [eq_iff_iff, iff_true]
   exact ⟨els[i], List.getElem?_eq_getElem uK, by rw [IZ _ (List.getElem_mem uK)]; omega⟩
  have hS : iI els i 0 [aJ aF (aR DD 0), .bool false, aJ aF (aR DD 1), .bool false] = els.set i (ri 0) := by
   have h4 := IZ _ (List.getElem_mem uK)
   rw [iI, List.getElem?_eq_getElem uK]
   simp [List.drop_of_length_le, h4]
  simp (disch := omega) [gw, hr, hE, hS]
  refine W.lw [0, 1, 6, 21, 22] hK ?_; clear hK K; simp
  refine W.b9 (fun K hK => ?_); simp (disch := omega) [gw]
  refine hK _ ⟨k0 - (i + 1), _, aC _ [0, 1, 6, 21, 22], by omega, i + 1, ver, els.set i (ri 0), _, _, rfl, by simp, by simpa using m6, fun e he => ?_, ?_, by omega, by omega⟩
  ·rcases List.mem_or_eq_of_mem_set he with h1 | h1
   ·exact IZ e h1
   ·rw [h1]; rfl
  ·rw [kS zU (by omega), List.replicate_succ']
   simp [emap]
 have h : i = k0 := by simp at h; omega
 subst h
 have oE : els = emap re (qd (List.replicate i 0) 1) := by rw [EX, zW, ← zU, bG m6]
 subst oE
 rw [show a0 = qd x 1 by rw [ha0, EX]]
 clear zU IZ m6 SR hk hi hkk ha0 la0 a0
 refine W.exit ?_; simp only [pX, if_true, if_false, reduceIte, Nat.reduceEqDiff]
 refine W.seq ?_
 refine W.block ?_
 generalize hdd : s' + N + 2 = d at *
 have YU : ∀ j, (x.length + 1 - j) * d ≤ (N + 1) * d := fun j => Nat.mul_le_mul_right _ (by omega)
 refine W.bB (fun n σ => ∃ (Q r : List Int) (D : Int) (v6 : Nat) (rows : Pm.Rows) (clk : Nat), σ = ⟨fa [(0, PP (qd r D)), (1, PP yq), (6, .own 19 v6 0 i)], rows, clk⟩ ∧
  rows 19 = some ⟨v6, 50, 4, emap re (qd Q D)⟩ ∧ Q.length = i ∧ rV x y ⟨Q, r, D⟩ ∧ r.length < n ∧ n ≤ x.length + 1 ∧ TM y n ⟨Q, r, D⟩ = R0 ∧ Bd 2 (s + (x.length + 1 - n) * d) N r ∧ sz 2 D ≤ s + (x.length + 1 - n) * d) (x.length + 1) ?_ ?_
 ·exact ⟨_, aC _ [0, 1, 6], _, x, 1, _, _, _, rfl, hr, by simp, hI0, by omega, by omega, G1.symm, hx.mono (by omega) (by omega), Nat.le_trans (cS (k := 1) (by decide) (by decide)) (by omega)⟩
 clear hr rows clk ver
 rintro n _ ⟨Q, r, D, v6, rows, clk, rfl, hr, hQ, hI, hrn, hnM, hd, br, bD⟩
 have hD : D ≠ 0 := hI.d
 have SW := YU n
 obtain ⟨a, ha⟩ : ∃ a, a = qd r D := ⟨_, rfl⟩
 have la : a.length = r.length := by rw [ha]; simp
 rw [← ha]
 refine W.seq ?_
 refine W.sr ?_
 simp (disch := omega) [gw, la, lyq]
 refine W.lx [0, 1, 6, 34] ?_; simp
 refine W.cond ⟨_, rfl, fun h => ?_, fun h => ?_⟩
 ·have h : y.length ≤ r.length := by simp at h; omega
  obtain ⟨n, rfl⟩ : ∃ m, n = m + 1 := ⟨n - 1, by omega⟩
  obtain ⟨k, hk⟩ : ∃ k, k = r.length - y.length := ⟨_, rfl⟩
  have hkI : (r.length : Int) - (y.length : Int) = k := by omega
  have VR : k < i := by have := hI.q.resolve_right (show ¬ r.length < y.length by omega); simp only at this; omega
  have hI2 := hI.step cy MD h
  have hl2 := EY (σ := ⟨Q, r, D⟩) MD h
  rw [TM, if_neg (show ¬ r.length < y.length by omega)] at hd
  simp only [dst, ← hk] at hI2 hl2 hd
  have hT : s + (x.length + 1 - n) * d = s + (x.length + 1 - (n + 1)) * d + d := by
   rw [show x.length + 1 - n = (x.length + 1 - (n + 1)) + 1 by omega, Nat.add_mul, Nat.one_mul]; omega
  have hn3 := YU n
  generalize hU : s + (x.length + 1 - (n + 1)) * d = U at *
  have hlr := fA br
  have hNr := br.len
  have GH : D * lead y ≠ 0 := Int.mul_ne_zero hD hl
  have zD2 : sz 2 (D * lead y) ≤ U + s' := bS (by decide) bD hls
  have hp : nth a (r.length - 1) = cX (lead r) D := by rw [ha, EW hD]; rfl
  have KJ : nth yq (y.length - 1) = (lead y : Rat) := by rw [hyq, YT]; rfl
  have aos := IQ (cX (lead r) D) (lead y : Rat) (rU hD (Nat.le_trans hlr (by show U ≤ 137438953472; omega)) (Nat.le_trans bD (by show U ≤ 137438953472; omega))) (nP (Nat.le_trans hls (by show s' ≤ 137438953472; omega)) (by decide)) (fB hl)
  rw [adz hD hl] at aos
  have hSc := nQ yq (cX (lead r) (D * lead y)) (by rw [hyq]; exact TE.qs (fun c hc => Nat.le_trans (hy.sz c hc) (by show s' ≤ 137438953472; omega)) (by omega)) (rU GH (Nat.le_trans hlr (by show U ≤ 137438953472; omega)) (Nat.le_trans zD2 (by show U + s' ≤ 137438953472; omega)))
  rw [hyq, TL GH, ← hyq] at hSc
  have bsc : Bd 2 (U + s') N (aV y (lead r)) := (hy.aV (by decide) hlr).mono (by omega) (by omega)
  have bw : Bd 2 (U + s') N (List.replicate k 0 ++ aV y (lead r)) := ⟨by have := nM y (lead r); simp; omega, fun c hc => by
   rcases List.mem_append.1 hc with h1 | h1
   ·rw [(List.mem_replicate.1 h1).2, i3]; omega
   ·exact bsc.sz c h1⟩
  have brl : Bd 2 (U + s') N (r.map (· * lead y)) := ⟨by simpa using br.len, fun c hc => by
   simp only [List.mem_map] at hc
   obtain ⟨v, hv, rfl⟩ := hc
   exact bS (by decide) (br.sz v hv) hls⟩
  have hSu := Y7 (qd (r.map (· * lead y)) (D * lead y)) (qd (List.replicate k 0 ++ aV y (lead r)) (D * lead y)) _
   (MU GH brl zD2 (by show U + s' ≤ 137438953472; omega) (by omega)) (MU GH bw zD2 (by show U + s' ≤ 137438953472; omega) (by omega)) (adB GH _) (MU GH bw.fD zD2 (by show U + s' ≤ 137438953472; omega) (by omega))
  rw [adA GH, MT hD hl, ← ha] at hSu
  have er : fU (r.map (· * lead y)) (fD (List.replicate k 0 ++ aV y (lead r))) = uI y (lead y) (lead r) k r := Cn.ext (Cn.fU _ _) (Cn.dZ _ _) fun t => by
   rw [o0, dA, y5, dF, n5, bU, uI, gJ, bU, cN, lS, List.length_replicate]; grind
  have br2 : Bd 2 (U + d) N (uI y (lead y) (lead r) k r) := by
   rw [← er]
   exact (Bd.fU (by decide) brl bw.fD).mono (by omega) (by omega)
  rw [er] at hSu
  have ew : qd (List.replicate k 0 ++ aV y (lead r)) (D * lead y) = List.replicate k 0 ++ qd (aV y (lead r)) (D * lead y) := by
   simp only [qd, List.map_append, List.map_replicate, tN GH]
  rw [ew] at hSu
  have lb : (qd (aV y (lead r)) (D * lead y)).length ≤ N := by have := bsc.len; simpa using this
  have YV : (qd Q D).set k (cX (lead r) (D * lead y)) = qd ((Q.map (· * lead y)).set k (lead r)) (D * lead y) := by
   rw [← MT hD hl Q, qd, qd, List.map_set]
  have hQl : (qd Q D).length = i := by simpa using hQ
  refine W.skip ?_
  refine W.block ?_
  generalize hz : qd Q D = z at *
  generalize qd (aV y (lead r)) (D * lead y) = b at *
  generalize MY : cX (lead r) (D * lead y) = c at *
  generalize hp2 : cX (lead r) D = p at *
  generalize hlq : (lead y : Rat) = lq at *
  generalize ha2 : qd (uI y (lead y) (lead r) k r) (D * lead y) = a2 at *
  refine W.sr ?_; simp (disch := omega) [gw, la, lyq, hkI]; refine W.lx [0, 1, 6, 8] ?_; simp
  have ax0 : 0 < r.length := by omega
  have e1 : ((r.length : Int) - 1).toNat = r.length - 1 := by omega
  have e2 : ((y.length : Int) - 1).toNat = y.length - 1 := by omega
  refine W.sd ?_
  simp (disch := omega) [gw, la, lyq, e1, e2, hp, KJ]
  refine aA aos ?_
  simp (disch := omega) [gw]
  rw [if_pos (by kernel_rfl)]
  simp (disch := omega) [gw]
  refine W.lx [0, 1, 6, 8, 9] ?_; simp
  have hkl : k < z.length := by omega
  refine W.sr ?_; simp (disch := omega) [gw, hr, hkl]; refine W.lx [0, 1, 6, 8, 9] ?_; simp
  refine W.sr ?_; simp (disch := omega) [gw]; refine W.lx [0, 1, 6, 8, 9, 10] ?_; simp
  refine W.seq ?_
  refine W.sr ?_; simp (disch := omega) [gw]; refine W.lx [0, 1, 6, 8, 9, 10, 60, 61] ?_; simp
  refine W.block ?_
  refine W.bB (fun m σ => ∃ (j v9 v10 v6 : Nat) (els : List (List PV)) (rows : Pm.Rows) (clk : Nat), σ = ⟨fa [(0, PP a), (1, PP yq), (6, .own 19 v6 0 i), (9, .ptr 9 v9 0 0), (10, .own 58 v10 0 k), (60, .int .i64 k), (61, .int .i64 j)], rows, clk⟩ ∧
   rows 19 = some ⟨v6, 50, 4, emap re (z.set k c)⟩ ∧ rows 9 = some ⟨v9, 50, 4, [[aJ aF (aR DD c.num.natAbs), .bool (decide (c.num < 0)), aJ aF (aR DD c.den), .bool false]]⟩ ∧
   rows 58 = some ⟨v10, 50, 4, els⟩ ∧ els.length = k ∧ (∀ e ∈ els, e.length = 4) ∧ els.take j = emap ri (List.replicate j 0) ∧ m = k - j ∧ j ≤ k) k ?_ ?_
  ·exact ⟨_, aC _ [0, 1, 6, 9, 10, 60, 61], 0, _, _, _, List.replicate k [.nil, .bool false, .nil, .bool false], _, _, rfl, by simp [hr], by simp, by simp, by simp, by simp, by simp [emap], by omega, by omega⟩
  clear hr rows clk v6
  rintro m _ ⟨j, v9, v10, v6, els, rows, clk, rfl, hr, hr9, I1, m6, IZ, zU, hm, hj⟩
  have SR : bC 4 els = True := by simp only [bC, eq_iff_iff, iff_true]; exact IZ
  refine W.sr ?_; simp (disch := omega) [gw]; refine W.lx [0, 1, 6, 9, 10, 60, 61, 62] ?_; simp
  refine W.seq ?_
  refine W.cond ⟨_, rfl, fun h => ?_, fun h => ?_⟩
  ·have h : j < k := by simp at h; omega
   refine W.skip ?_
   refine W.seq ?_
   refine W.block ?_
   refine W.sr ?_; simp (disch := omega) [gw]; refine W.lx [0, 1, 6, 9, 10, 11, 60, 61] ?_; simp
   refine W.b9 (fun K hK => ?_)
   simp (disch := omega) [gw]
   refine aA p7 ?_
   have uK : j < els.length := by omega
   have hE : sU els j 4 = True := by
    simp only [eq_iff_iff, iff_true]
    exact ⟨els[j], List.getElem?_eq_getElem uK, by rw [IZ _ (List.getElem_mem uK)]; omega⟩
   have hS : iI els j 0 [aJ aF (aR DD 0), .bool false, aJ aF (aR DD 1), .bool false] = els.set j (ri 0) := by
    have h4 := IZ _ (List.getElem_mem uK)
    rw [iI, List.getElem?_eq_getElem uK]
    simp [List.drop_of_length_le, h4]
   simp (disch := omega) [gw, I1, hE, hS]
   refine W.lw [0, 1, 6, 9, 10, 60, 61] hK ?_; clear hK K; simp
   refine W.b9 (fun K hK => ?_); simp (disch := omega) [gw]
   refine hK _ ⟨k - (j + 1), _, aC _ [0, 1, 6, 9, 10, 60, 61], by omega, j + 1, v9, v10, v6, els.set j (ri 0), _, _, rfl, by simp [hr], by simp [hr9], by simp, by simpa using m6, fun e he => ?_, ?_, by omega, by omega⟩
   ·rcases List.mem_or_eq_of_mem_set he with h1 | h1
    ·exact IZ e h1
    ·rw [h1]; rfl
   ·rw [kS zU (by omega), List.replicate_succ']
    simp [emap]
  have h : j = k := by simp at h; omega
  subst h
  have oE : els = emap re (List.replicate j 0) := by
   have h1 : emap ri (List.replicate j 0) = emap re (List.replicate j 0) := by simp [emap, iC]
   rw [← h1, ← zU, bG m6]
  subst oE
  clear zU IZ m6 SR
  refine W.exit ?_; simp only [pX, if_true, if_false, reduceIte, Nat.reduceEqDiff]
  refine W.HS (fun K hK => ?_)
  rw [if_pos rfl, eD]
  have hsl : ((List.take r.length a).drop 0) = a := by rw [List.drop_zero, List.take_of_length_le (by omega)]
  simp (disch := omega) [gw, la, lyq, hr9, D6, hsl]
  refine aA hSc ?_
  have AZ : List.take (j + b.length) (List.replicate j 0 ++ b) = List.replicate j 0 ++ b := List.take_of_length_le (by simp)
  simp (disch := omega) [gw, I1, AZ]
  refine aA hSu ?_
  simp (disch := omega) [gw]
  subst ha2
  have cT : rows 19 = some ⟨v6, 50, 4, emap re (qd ((Q.map (· * lead y)).set j (lead r)) (D * lead y))⟩ := by rw [hr, YV]
  refine hK _ ⟨n, _, aC _ [0, 1, 6], by omega, (Q.map (· * lead y)).set j (lead r), uI y (lead y) (lead r) j r, D * lead y, v6, _, _, rfl, by simp [cT], by simpa using hQ, hI2, by omega, by omega, hd, ?_, ?_⟩
  ·rw [hT]; exact br2
  ·rw [hT]; exact Nat.le_trans zD2 (by omega)
 ·have h : r.length < y.length := by simp at h; omega
  rw [adC h] at hd
  subst hd
  refine W.exit ?_; simp only [pX, if_true, if_false, reduceIte, Nat.reduceEqDiff]
  have hcq := tL (qd Q D) (by simp; omega)
  rw [tO hD] at hcq
  have hQl : (qd Q D).length = i := by simpa using hQ
  have uJ := bG hQl
  rw [← ha]
  generalize qd Q D = z at *
  generalize qd (aM Q) D = z2 at *
  refine W.sr ?_
  simp (disch := omega) [gw, hr, uJ]
  refine aA hcq ?_
  simp (disch := omega) [gw]
  refine W.lx [4, 5] ?_; simp
  refine W.ret ?_
  simp [go]
theorem JA {x y : List Int} (cy : Cn y) (hy : 0 < y.length) : ∀ (j : Nat), j ≤ x.length → Y1 y j (List.replicate j 0 ++ x.drop j) (bI (aM (x.take j)) y) = some (x, [])
 | 0, _ => by
  have : bI (aM (x.take 0)) y = [] := Cn.ext (Cn.bI _ _) Cn.nil fun t => by rw [cN, cA]; simp [V]
  rw [Y1, this]; rfl
 | j + 1, h => by
  have ih := JA (x := x) cy hy j (by omega)
  have hly := cI cy hy
  have ht := a9 (l := x) (i := j) (by omega)
  have hdr : x.drop j = nth x j :: x.drop (j + 1) := by
   rw [List.drop_eq_getElem_cons (l := x) (i := j) (by omega), show nth x j = x[j] from cC (by omega)]
  rw [Y1]
  by_cases hv : nth x j = 0
  ·have hw : aM (x.take (j + 1)) = aM (x.take j) := by rw [ht, hv, iK]
   rw [hw]
   have h1 := o7 (x := aM (x.take j)) hy
   have h2 := bN (x.take j)
   rw [List.length_take] at h2
   rw [if_pos (by omega), ← ih]
   rw [hdr, hv, List.replicate_succ', List.append_assoc]; rfl
  ·have hw : aM (x.take (j + 1)) = x.take j ++ [nth x j] := by rw [ht]; exact iZ hv _
   have cw : Cn (x.take j ++ [nth x j]) := iZ hv _
   have hwl : (x.take j ++ [nth x j]).length = j + 1 := by simp; omega
   have hlw : lead (x.take j ++ [nth x j]) = nth x j := by
    rw [lead, hwl, Nat.add_sub_cancel, cC (by omega)]
    have : (x.take j).length = j := by simp; omega
    simp [List.getElem_append_right, this]
   rw [hw]
   have hl := iN cw cy (by omega) hy
   have hd := uU cw cy (by omega) hy
   rw [hwl] at hl
   rw [hlw] at hd
   rw [if_neg (by omega), hd, if_pos (Int.mul_emod_left _ _), Int.mul_ediv_cancel _ hly]
   have e1 : dZ (bI (x.take j ++ [nth x j]) y) (bI (oB j (nth x j)) y) = bI (aM (x.take j)) y := Cn.ext (Cn.dZ _ _) (Cn.bI _ _) fun t => by
    rw [gJ, cN, cN, cN, cA, dF, lM, lS, show (x.take j).length = j by simp; omega]
    grind
   have e2 : (List.replicate (j + 1) 0 ++ x.drop (j + 1)).set j (nth x j) = List.replicate j 0 ++ x.drop j := by
    rw [hdr, List.replicate_succ', List.append_assoc, List.set_append_right _ _ (by simp)]
    simp
   rw [e1, e2]
   exact ih
theorem MZ {x y : List Int} (cx : Cn x) (cy : Cn y) (hy : 0 < y.length) : exact (bI x y) y = some x := by
 have hk : iA (bI x y) y = x.length := by
  rcases Nat.eq_zero_or_pos x.length with h | h
  ·have : x = [] := List.eq_nil_of_length_eq_zero h
   have e : bI x y = [] := Cn.ext (Cn.bI _ _) Cn.nil fun t => by rw [cN, this]; simp [V]
   rw [e, this]; simp [iA]; omega
  ·have := iN cx cy h hy
   unfold iA; omega
 have h1 := JA (x := x) cy hy x.length (Nat.le_refl _)
 rw [List.take_length, show aM x = x from cx, List.drop_length, List.append_nil] at h1
 rw [exact, hk, h1, exF, show aM x = x from cx]
theorem E2 {y h : List Int} (cy : Cn y) (hy : 0 < y.length) (e : ∀ t, V t y * V t h = 0) : aM h = [] := by
 by_cases hh : aM h = []
 ·exact hh
 ·exfalso
  have h1 : bI y (aM h) = [] := Cn.ext (Cn.bI _ _) Cn.nil fun t => by rw [cN, cA, e]; rfl
  have h2 := iN cy (Cn.cut h) hy (List.length_pos_iff.2 hh)
  rw [h1] at h2
  have := List.length_pos_iff.2 hh
  simp at h2; omega
theorem JB {a b : List Int} (h : aM (dZ a b) = []) (t : Int) : V t a = V t b := by
 have h1 := gJ (t := t) a b
 rw [← cA, h] at h1
 have : V t ([] : List Int) = 0 := rfl
 omega
theorem TP {D : Int} (h : D ≠ 0) (x : List Int) : qd (x.map (· * D)) D = qs x := by
 have := MT (D := 1) (l := D) (by decide) h x
 rw [Int.one_mul, EX] at this
 exact this
theorem ZG {x y q : List Int} (cx : Cn x) (cy : Cn y) (hy : 0 < y.length) (cq : Cn q) (h : ∀ t, V t x = V t q * V t y) : qd (aM (Y6 x y).Q) (Y6 x y).D = qs q ∧ (Y6 x y).r = [] := by
 obtain ⟨hI, hr⟩ := adD cx cy hy
 generalize Y6 x y = σ at *
 have hv := hI.v
 have e : ∀ t, V t σ.r = V t y * V t (dZ (q.map (· * σ.D)) σ.Q) := fun t => by
  have h1 := hv t
  rw [h] at h1
  rw [gJ, dA]
  grind
 have h1 := CK hI.c cy hy e hr
 have h2 : aM (dZ (q.map (· * σ.D)) σ.Q) = [] := E2 cy hy fun t => by rw [← e, h1]; rfl
 have e2 : aM σ.Q = q.map (· * σ.D) := Cn.ext (Cn.cut _) (jP cq hI.d) fun t => by rw [cA]; exact (JB h2 t).symm
 rw [e2]
 exact ⟨TP hI.d q, h1⟩
end Go.Proofs.YtbbjgncblhfegaaGreat
