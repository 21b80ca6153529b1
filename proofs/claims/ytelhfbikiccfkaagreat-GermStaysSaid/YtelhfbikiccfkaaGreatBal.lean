import Derived.Test.YtelhfbikiccfkaaGreatBaf
import Derived.Test.YtelhfbikiccfkaaGreatBak
set_option linter.unusedSimpArgs false
set_option linter.unusedVariables false
namespace Go.Proofs.YtelhfbikiccfkaaGreat
open Go Pm
theorem afT (x : List Int) : mH (x.map tA) = aN x := by simp only [mH, cE]
theorem kN {x : List Int} (hx : Cn x) {m : Int} (hm : m ≠ 0) : Cn (x.map (· * m)) := by
 rcases Nat.eq_zero_or_pos x.length with h | h
 ·have : x = [] := List.eq_nil_of_length_eq_zero h
  subst this; rfl
 ·have e := tS h
  have : x.map (· * m) = (x.take (x.length - 1)).map (· * m) ++ [lead x * m] := by
   conv => lhs; rw [e]
   simp
  rw [this]
  exact iF (Int.mul_ne_zero (cK hx h) hm) _
theorem r5 {x : List Int} (hx : Cn x) {m : Int} (hm : m ≠ 0) : aX x m = x.map (· * m) := kN hx hm
theorem QM {x : List Int} (hx : Cn x) : aX x 1 = x := Cn.ext (Cn.aX _ _) hx fun t => by rw [cC]; omega
theorem QN (x : List Int) : gH x = aX x (-1) := Cn.ext (Cn.gH _) (Cn.aX _ _) fun t => by rw [BL, cC]; omega
theorem kO (m : Int) (x : List Int) : bK (x.map (· * m)) = bK x * m.natAbs := by
 have key : ∀ (l : List Int) (g : Nat), (l.map (· * m)).foldl (fun g c => Nat.gcd g c.natAbs) (g * m.natAbs) = l.foldl (fun g c => Nat.gcd g c.natAbs) g * m.natAbs := by
  intro l
  induction l with
  | nil => intro g; rfl
  | cons c l ih =>
   intro g
   simp only [List.map_cons, List.foldl_cons]
   rw [Int.natAbs_mul, Nat.gcd_mul_right, ih]
 have := key x 0
 rw [Nat.zero_mul] at this
 exact this
theorem XG {m : Int} (hm : 0 < m) (g v : Int) : p8 (g * m) (v * m) = p8 g v := by
 unfold p8
 rw [Int.mul_comm v, Int.mul_comm g, Int.mul_emod_mul_of_pos _ _ hm, Int.mul_ediv_mul_of_pos _ _ hm]
 have : m * (v % g) = 0 ↔ v % g = 0 := by
  constructor
  ·intro h
   rcases Int.mul_eq_zero.1 h with h | h
   ·omega
   ·exact h
  ·intro h; rw [h]; simp
 simp only [this]
theorem QO {m : Int} (hm : 0 < m) (x : List Int) : jM (x.map (· * m)) = jM x := by
 unfold jM
 rw [kO, List.map_map]
 congr 1
 refine List.map_congr_left fun v _ => ?_
 simp only [Function.comp_apply]
 have : ((bK x * m.natAbs : Nat) : Int) = (bK x : Int) * m := by rw [Int.natCast_mul]; congr 1; omega
 rw [this, XG hm]
theorem yU {x : List Int} (hx : Cn x) {m : Int} (hm : 0 < m) : jM (aX x m) = jM x := by rw [r5 hx (by omega), QO hm]
def sg (c : Int) (k : Nat) : Int := if k % 2 = 1 ∧ c < 0 then -1 else 1
theorem abI (c : Int) : ∀ k : Nat, c ^ k = sg c k * (c.natAbs : Int) ^ k
 | 0 => by simp [sg]
 | k + 1 => by
  have ih := abI c k
  have hc : c = (if c < 0 then -1 else 1) * (c.natAbs : Int) := by split <;> omega
  have hs : sg c (k + 1) = sg c k * (if c < 0 then -1 else 1) := by
   unfold sg
   by_cases h : c < 0
   ·rcases Nat.mod_two_eq_zero_or_one k with h2 | h2
    ·rw [if_pos ⟨by omega, h⟩, if_neg (by omega), if_pos h]; rfl
    ·rw [if_neg (by omega), if_pos ⟨h2, h⟩, if_pos h]; rfl
   ·rw [if_neg (fun h2 => h h2.2), if_neg (fun h2 => h h2.2), if_neg h]; rfl
  rw [Int.pow_succ, Int.pow_succ, ih, hs]
  conv => lhs; rw [hc]
  generalize (if c < 0 then (-1 : Int) else 1) = e at *
  have e3 : ((e * (c.natAbs : Int)).natAbs : Int) = (c.natAbs : Int) := by rw [← hc]
  rw [e3]
  grind
theorem abJ (c : Int) (k : Nat) : sg c k * sg c k = 1 := by unfold sg; split <;> rfl
theorem abK {a b : List Int} (ca : Cn a) : L9 a b = jM (aX (yO a b).2 (sg (lead b) (i0 a b))) := by
 have cr := (BO (b := b) ca).2
 unfold L9 sg
 split
 ·rw [QN]
 ·rw [QM cr]
theorem lM (x : List Int) : (jM x).length ≤ x.length := Nat.le_trans (bP _) (by simp)
theorem MC (x : List Int) : (gH x).length ≤ x.length := Nat.le_trans (bP _) (by simp)
theorem afV {a b : List Int} (hb : 0 < b.length) : (L9 a b).length < b.length := by
 have h1 := HT (a := a) hb
 unfold L9
 split
 ·have h2 := lM (gH (yO a b).2)
  have h3 := MC (yO a b).2
  omega
 ·have h2 := lM (yO a b).2
  omega
theorem alA (a b : List Int) : Cn (L9 a b) := by unfold L9; split <;> exact Cn.cut _
def exs (b : List Int) : Nat → List Int → List Int → Option (List Int × List Int)
 | 0, q, a => some (q, a)
 | i + 1, q, a => if a.length < b.length + i then exs b i q a else if lead a % lead b = 0 then exs b i (q.set i (lead a / lead b)) (eZ a (bL (pY i (lead a / lead b)) b)) else none
def exF : Option (List Int × List Int) → Option (List Int)
 | some (q, []) => some (aN q)
 | _ => none
def exact (a b : List Int) : Option (List Int) := exF (exs b (i0 a b) (List.replicate (i0 a b) 0) a)
def exR (o : Option (List Int)) : PV :=
 match o with
 | some q => .fH [Po q, .int .i64 0]
 | none => .fH [Po [], .int .i64 3]
theorem Bd.set {B s n : Nat} {x : List Int} (h : Bd B s n x) {i : Nat} {v : Int} (hv : Pm.sz B v ≤ s) : Bd B s n (x.set i v) := ⟨by simpa using h.len, fun c hc => by
 rcases List.mem_or_eq_of_mem_set hc with h1 | h1
 ·exact h.sz c h1
 ·rw [h1]; exact hv⟩
theorem XH (a b : RP) {s s' N : Nat} (ha : sO a) (hb : sO b) (sa : Bd LL s N (a.map gv)) (sb : Bd LL s' N (b.map gv)) (hB : s + N * (s' + N + 1) + s' + N + N + 10 < 1099511627774) :
  aG env.P 222 [Pg a, Pg b] (if mH b = [] then .fH [Po [], .int .i64 2] else exR (exact (mH a) (mH b))) := by
 have hA : Bd LL s N (mH a) := sa.cut
 have TP : Bd LL s' N (mH b) := sb.cut
 have ca : Cn (mH a) := Cn.cut _
 have cb : Cn (mH b) := Cn.cut _
 have na := iG a ha
 have nb := iG b hb
 rw [show aN (a.map gv) = mH a from rfl] at na
 rw [show aN (b.map gv) = mH b from rfl] at nb
 refine bV [(0, Pg a), (1, Pg b)] Tryz.func222 ?_
 generalize mH a = x at *
 generalize mH b = y at *
 refine aA [0, 1] ?_
 refine iU ?_
 refine bZ na ?_
 refine cI [0, 1] nb ?_
 refine aL [0, 1, 17] ?_
 refine bE ?_ ?_ <;> intro h
 ·have h : y = [] := by simp at h; exact h
  rw [if_pos h]
  refine aA [4, 5] ?_
  refine W.ret ?_
  simp [go]
  rfl
 have hy : y ≠ [] := by simp at h; exact h
 clear h
 rw [if_neg hy]
 have P9 : 0 < y.length := List.length_pos_iff.2 hy
 have hNx := hA.len
 have hNy := TP.len
 have hsy := fS TP
 have hly := cK cb P9
 have hL := kM (PB.of TP (by omega) (by omega)) cb
 have hDy := lL y (by omega)
 have hkN : i0 x y ≤ N := by unfold i0; omega
 generalize hdd : s' + N + 1 = d at *
 have hNN : ∀ j, j ≤ N → (N - j) * d ≤ N * d := fun j _ => Nat.mul_le_mul_right _ (by omega)
 have hkk : (if (0 : Int) < (x.length : Int) - (y.length : Int) + 1 then (x.length : Int) - (y.length : Int) + 1 else 0) = (i0 x y : Int) := by unfold i0; split <;> omega
 refine W.skip ?_
 refine W.sr ?_
 simp (disch := omega) [gw, hkk]
 refine bH [0, 1, 6] ?_
 refine W.row (id := 25) (emap ie (List.replicate (i0 x y) 0)) (by simp; exact ⟨rfl, rfl, rfl⟩) (qT _) ?_
 refine aL [0, 1, 6, 7] ?_
 refine W.block ?_
 obtain ⟨R0, KF⟩ : ∃ R0, R0 = exs y (i0 x y) (List.replicate (i0 x y) 0) x := ⟨_, rfl⟩
 have hex : exact x y = exF R0 := by rw [KF]; rfl
 rw [hex]
 clear hex
 generalize B4 : i0 x y = k0 at *
 refine W.bC (fun j σ => ∃ (v6 : Nat) (z r : List Int) (rows : Pm.Rows) (clk : Nat), σ = ⟨fa [(0, Po r), (1, Po y), (6, .own 25 v6 0 k0), (7, .int .i64 ((j : Int) - 1))], rows, clk⟩ ∧
  rows 25 = some ⟨v6, 38, 2, emap ie z⟩ ∧ z.length = k0 ∧ j ≤ k0 ∧ exs y j z r = R0 ∧ Bd LL (s + (N - j) * d) (N + N) z ∧ Bd LL (s + (N - j) * d) (N + N) r ∧ Cn r) k0 ?_ ?_
 ·exact ⟨_, .refl, _, List.replicate k0 0, x, _, _, rfl, by simp, by simp, by omega, KF.symm, ⟨by simp; omega, fun c hc => by rw [(List.mem_replicate.1 hc).2, jW]; omega⟩, hA.mono (by omega) (by omega), ca⟩
 rintro j _ ⟨v6, z, r, rows, clk, rfl, abM, hz, hj, yT, bz, br, cr⟩
 refine aL [0, 1, 6, 7, 30] ?_
 refine bE ?_ ?_ <;> intro h
 ·have hj0 : 0 < j := by simp at h; omega
  obtain ⟨i, rfl⟩ : ∃ i, j = i + 1 := ⟨j - 1, by omega⟩
  clear h
  have ei : ((i + 1 : Nat) : Int) - 1 = i := by omega
  rw [ei]
  have hN1 := hNN (i + 1) (by omega)
  have CG := hNN i (by omega)
  have hT : s + (N - i) * d = s + (N - (i + 1)) * d + s' + N + 1 := by
   rw [show N - i = (N - (i + 1)) + 1 by omega, Nat.add_mul, Nat.one_mul]; omega
  have hDr := lL r (by have := br.len; omega)
  have hLr := kM (PB.of br (by omega) (by omega)) cr
  have hlr := fS br
  rw [exs] at yT
  refine W.skip ?_
  refine W.eT (fun σ => ∃ (z r : List Int) (rows : Pm.Rows) (clk : Nat), σ = ⟨fa [(0, Po r), (1, Po y), (6, .own 25 v6 0 k0), (7, .int .i64 i)], rows, clk⟩ ∧
   rows 25 = some ⟨v6, 38, 2, emap ie z⟩ ∧ z.length = k0 ∧ exs y i z r = R0 ∧ Bd LL (s + (N - i) * d) (N + N) z ∧ Bd LL (s + (N - i) * d) (N + N) r ∧ Cn r) ?_ ?_
  ·
   refine W.seq ?_
   refine iU ?_
   refine bZ hDr ?_
   refine cI [0, 1, 6, 7, 39] hDy ?_
   by_cases hlen : r.length < y.length + i
   ·rw [if_pos hlen] at yT
    refine bE ?_ ?_ <;> intro h
    ·refine fB ?_
     exact ⟨_, aB _ [0, 1, 6, 7], z, r, _, _, rfl, abM, hz, yT, bz.mono (by omega) (by omega), br.mono (by omega) (by omega), cr⟩
    ·exfalso; simp at h; omega
   rw [if_neg hlen] at yT
   refine bE ?_ ?_ <;> intro h
   ·exfalso; simp at h; omega
   clear h
   have hE := H5 (v := lead r) (c := lead y) (by omega) (by omega) hly
   refine W.skip ?_
   by_cases hdv : lead r % lead y = 0
   ·rw [if_pos hdv] at hE yT
    have hts : sz LL (lead r / lead y) ≤ s + (N - (i + 1)) * d := Nat.le_trans (cZ fY (Int.natAbs_ediv_le_natAbs _ _)) hlr
    have bs := Bd.pY hts i
    have bm := bs.bL fY TP
    have b2 : Bd LL (s + (N - i) * d) (N + N) (eZ r (bL (pY i (lead r / lead y)) y)) := (Bd.eZ fY (br.mono (s' := s + (N - (i + 1)) * d + s' + N) (n' := N + N) (by omega) (by omega)) (bm.mono (by omega) (by omega))).mono (by omega) (by omega)
    have f4 := oQ bs TP (by omega)
    have f5 := FZ (PB.of br (by omega) (by omega)) (PB.of bm (by omega) (by omega))
    have cr2 : Cn (eZ r (bL (pY i (lead r / lead y)) y)) := Cn.eZ _ _
    have bz2 := Bd.set (i := i) (bz.mono (s' := s + (N - i) * d) (n' := N + N) (by omega) (by omega)) (Nat.le_trans hts (by omega))
    generalize dP : eZ r (bL (pY i (lead r / lead y)) y) = r2 at *
    generalize bL (pY i (lead r / lead y)) y = pm at *
    generalize lead r / lead y = tt at *
    have abH := qY i tt
    have alz : (pY i tt).length = i + 1 := by simp [pY]
    have kG := bJ alz
    generalize lead r = lr at *
    generalize lead y = ly at *
    refine iU ?_
    refine bZ hLr ?_
    refine bZ hL ?_
    refine cI [0, 1, 6, 7, 8, 9] hE ?_
    refine aL [0, 1, 6, 7, 8, 49] ?_
    refine bE ?_ ?_ <;> intro h
    ·cases h
    refine W.skip ?_
    refine W.sr ?_
    simp (disch := omega) [gw, abM, hz]
    refine bH [0, 1, 6, 7, 8] ?_
    have e9 : ((i : Int) + 1).toNat = i + 1 := by omega
    refine W.sr ?_
    simp (disch := omega) [gw, e9]
    refine bH [0, 1, 6, 7, 8, 10] ?_
    refine W.row (id := 56) (emap ie (List.replicate (i + 1) 0)) (by simp; exact ⟨rfl, rfl, rfl⟩) (qT _) ?_
    refine W.sr ?_
    simp (disch := omega) [gw, abH]
    refine bH [0, 1, 6, 7, 10] ?_
    refine W.freeze 56 (by simp) (fun K hK => ?_)
    simp [kG]
    refine hK _ ?_; clear hK K
    refine W.b8 (fun K hK => ?_)
    simp (disch := omega) [gw]
    refine bZ f4 ?_
    refine bZ f5 ?_
    exact hK _ ⟨_, aB _ [0, 1, 6, 7], z.set i tt, r2, _, _, rfl, by simp, by simp [hz], yT, bz2, b2, cr2⟩
   ·rw [if_neg hdv] at hE yT
    subst yT
    refine iU ?_
    refine bZ hLr ?_
    refine bZ hL ?_
    refine cI [0, 1, 6, 7, 8, 9] hE ?_
    refine aL [0, 1, 6, 7, 8, 49] ?_
    refine bE ?_ ?_ <;> intro h
    ·refine aA [4, 5] ?_
     refine W.ret ?_
     simp [go, exR, exF]
     rfl
    ·cases h
  rintro _ ⟨z, r, rows, clk, rfl, abM, hz, yT, bz, br, cr⟩
  refine W.b8 (fun K hK => ?_); simp (disch := omega) [gw]
  refine hK _ ⟨i, _, aB _ [0, 1, 6, 7], by omega, v6, z, r, _, _, rfl, by simp [abM], hz, by omega, yT, bz, br, cr⟩
 ·have hj0 : j = 0 := by simp at h; omega
  subst hj0
  simp only [exs] at yT
  rw [← yT]
  have hN0 := hNN 0 (by omega)
  have hzn := fP (PB.of bz (by omega) (by omega))
  have hzz := bJ hz
  refine fB ?_
  refine aL [6, 68] ?_
  cases r with
  | nil =>
   refine bE ?_ ?_ <;> intro h
   ·exfalso; simp at h
   refine W.skip ?_
   refine W.sr ?_
   simp (disch := omega) [gw, abM, hzz]
   refine cI [4, 5] hzn ?_
   refine W.ret ?_
   simp [go, exR, exF]
  | cons c r =>
   refine bE ?_ ?_ <;> intro h
   ·refine aA [4, 5] ?_
    refine W.ret ?_
    simp [go, exR, exF]
    rfl
   ·exfalso; simp at h
theorem CI {d : Nat} {x : List Int} (h : ∀ c ∈ x, (d : Int) ∣ c) : d ∣ bK x := by
 have key : ∀ (l : List Int) (g : Nat), d ∣ g → (∀ c ∈ l, (d : Int) ∣ c) → d ∣ l.foldl (fun g c => Nat.gcd g c.natAbs) g := by
  intro l
  induction l with
  | nil => intro g hg _; exact hg
  | cons c l ih =>
   intro g hg hl
   rw [List.foldl_cons]
   exact ih _ (Nat.dvd_gcd hg (Int.ofNat_dvd_left.1 (hl c (by simp)))) fun v hv => hl v (by simp [hv])
 exact key x 0 (Nat.dvd_zero d) h
theorem zV {x : List Int} {g : Int} (h : ∀ c ∈ x, g ∣ c) : (x.map (p8 g)).map (· * g) = x := by
 rw [List.map_map]
 refine (List.map_congr_left fun v hv => ?_).trans (List.map_id _)
 have h1 : v % g = 0 := Int.emod_eq_zero_of_dvd (h v hv)
 simp only [Function.comp_apply, p8, id_eq]
 rw [if_pos h1]
 exact Int.ediv_mul_cancel (h v hv)
theorem xE {x y : List Int} {g : Int} (hg : g ≠ 0) (h : y.map (· * g) = x) (e : bK x = g.natAbs) : bK y = 1 := by
 have := kO g y
 rw [h, e] at this
 exact Nat.eq_of_mul_eq_mul_right (show 0 < g.natAbs by omega) (by omega)
theorem dV (t : Int) (g : Int) (x : List Int) : V t (x.map (· * g)) = V t x * g := by
 have := gP (t := t) g id x
 simp only [id_eq, List.map_id_fun] at this
 exact this
theorem abN {x y : List Int} (cx : Cn x) (cy : Cn y) (hx : x ≠ []) (hy : y ≠ []) : bK (bL x y) = bK x * bK y := by
 have gx := cD cx hx
 have gy := cD cy hy
 have hp : bK (bL x y) ≠ 0 := cD (Cn.bL _ _) fun h => by
  have := jF cx cy (List.length_pos_iff.2 hx) (List.length_pos_iff.2 hy)
  rw [h] at this
  have h1 := List.length_pos_iff.2 hx
  have h2 := List.length_pos_iff.2 hy
  simp only [List.length_nil] at this
  omega
 obtain ⟨x', VR⟩ : ∃ x' : List Int, x'.map (· * (bK x : Int)) = x := ⟨_, zV (iA x)⟩
 obtain ⟨y', N5⟩ : ∃ y' : List Int, y'.map (· * (bK y : Int)) = y := ⟨_, zV (iA y)⟩
 have px := xE (by omega) VR (by omega)
 have py := xE (by omega) N5 (by omega)
 have e : bL x y = (bL x' y').map (· * ((bK x : Int) * bK y)) := by
  rw [← r5 (Cn.bL _ _) (Int.mul_ne_zero (by omega) (by omega))]
  refine Cn.ext (Cn.bL _ _) (Cn.aX _ _) fun t => ?_
  have h1 := dV t (bK x) x'
  have h2 := dV t (bK y) y'
  rw [VR] at h1
  rw [N5] at h2
  rw [dB, cC, dB, h1, h2]
  grind
 rw [e, kO] at hp
 rw [e, kO, Int.natAbs_mul]
 have hd : 0 < bK (bL x' y') := Nat.pos_of_mul_pos_right (Nat.pos_of_ne_zero hp)
 have hD := TF _ (bK (bL x' y')) x' y' (Nat.le_refl _) hd (Dv.of (iA _)) (fun d _ hy => Nat.dvd_one.1 (py ▸ CI hy.mem))
 have h1 : bK (bL x' y') = 1 := Nat.dvd_one.1 (px ▸ CI hD.mem)
 rw [h1, Nat.one_mul]
 simp
def kP (x : List Int) : Int := if lead x < 0 then -(bK x : Int) else bK x
def qZ (x : List Int) : List Int := aN (x.map (p8 (kP x)))
theorem nI (x : List Int) : (kP x).natAbs = bK x := by unfold kP; split <;> omega
theorem H6 (x : List Int) : ∀ c ∈ x, kP x ∣ c := fun c hc => by
 have := iA x c hc
 unfold kP; split
 ·exact Int.neg_dvd.2 this
 ·exact this
theorem H7 {x : List Int} (cx : Cn x) (hx : x ≠ []) : (qZ x).map (· * kP x) = x := by
 have gx := cD cx hx
 have h0 := nI x
 rw [← r5 (show Cn (qZ x) from Cn.cut _) (show kP x ≠ 0 by omega)]
 refine Cn.ext (Cn.aX _ _) cx fun t => ?_
 rw [cC, qZ, cV, ← dV, zV (H6 x)]
theorem XI {x : List Int} (cx : Cn x) (hx : x ≠ []) : aX (qZ x) (kP x) = x := by
 have gx := cD cx hx
 have h0 := nI x
 rw [r5 (show Cn (qZ x) from Cn.cut _) (show kP x ≠ 0 by omega)]
 exact H7 cx hx
theorem afW {x : List Int} (cx : Cn x) (hx : x ≠ []) : bK (qZ x) = 1 := by
 have gx := cD cx hx
 have h0 := nI x
 exact xE (by omega) (H7 cx hx) h0.symm
theorem abO {x : List Int} (cx : Cn x) (hx : x ≠ []) : 0 < lead (qZ x) := by
 have gx := cD cx hx
 have h := H7 cx hx
 have hl : (qZ x).length = x.length := by rw [← congrArg List.length h]; simp
 have n9 := List.length_pos_iff.2 hx
 have h1 : lead x = lead (qZ x) * kP x := by
  rw [lead, lead, hl, ← i3, h]
 have nZ := cK (x := qZ x) (Cn.cut _) (by omega)
 have hg : (0 : Int) < bK x := by omega
 unfold kP at h1
 rcases Int.lt_trichotomy (lead (qZ x)) 0 with h2 | h2 | h2
 ·exfalso
  split at h1
  ·rename_i h3
   have := Int.mul_pos (show (0 : Int) < -lead (qZ x) by omega) hg
   rw [Int.mul_neg, ← Int.neg_mul] at h1
   omega
  ·rename_i h3
   have := Int.mul_pos (show (0 : Int) < -lead (qZ x) by omega) hg
   rw [Int.neg_mul] at this
   omega
 ·exact absurd h2 nZ
 ·exact h2
theorem tB (a : RP) {s n : Nat} (ha : sO a) (sa : Bd LL s n (a.map gv)) (hs : s < 1099511627774) (hn : n < 1099511627774) :
  aG env.P 153 [Pg a] (.fH [I (kP (mH a)), Po (qZ (mH a))]) := by
 have hA : Bd LL s n (mH a) := sa.cut
 have ca : Cn (mH a) := Cn.cut _
 have na := iG a ha
 rw [show aN (a.map gv) = mH a from rfl] at na
 refine bV [(0, Pg a)] Tryz.func153 ?_
 generalize mH a = x at *
 refine aA [0, 2] ?_
 refine aK [0, 2] na ?_
 refine aL [0, 2, 9] ?_
 refine bE ?_ ?_ <;> intro h
 ·have h : x = [] := by simp at h; exact h
  subst h
  rw [show kP ([] : List Int) = 0 by decide, show qZ ([] : List Int) = [] from rfl]
  refine aA [2, 3] ?_
  refine W.ret ?_
  simp [go]
  exact ⟨rfl, rfl⟩
 have hx : x ≠ [] := by simp at h; exact h
 clear h
 have n9 := List.length_pos_iff.2 hx
 have gx := cD ca hx
 have hp0 := nI x
 have hC := vS x (PD.of hA hs hn)
 have hL := kM (PB.of hA (by omega) (by omega)) ca
 have hgs := TQ (s := s) hA.sz ca hx
 have JR : sz LL (kP x) ≤ s := by
  unfold kP; split
  ·rw [o7]; exact hgs
  ·exact hgs
 have hO := L6 x (kP x) (PD.of hA hs hn) (by omega) (by omega)
 rw [show aN (x.map (p8 (kP x))) = qZ x from rfl] at hO
 have hN := aic (x := (bK x : Int)) (by show sz LL _ < _; omega)
 refine W.skip ?_
 refine aK [0, 2, 4] hC ?_
 refine W.gS (fun σ => ∃ (rows : Pm.Rows) (clk : Nat), σ = ⟨fa [(0, Po x), (2, .ptr 2 0 0 0), (4, .ptr 4 1 0 0)], rows, clk⟩ ∧ rows 2 = some ⟨0, 38, 2, [[.bool false, .nil]]⟩ ∧ rows 4 = some ⟨1, 38, 2, [ie (kP x)]⟩) ?_ ?_
 ·refine W.gM (fun σ => ∃ (rows : Pm.Rows) (clk : Nat), σ = ⟨fa [(0, Po x), (2, .ptr 2 0 0 0), (4, .ptr 4 1 0 0), (16, .bool (decide (lead x < 0)))], rows, clk⟩ ∧ rows 2 = some ⟨0, 38, 2, [[.bool false, .nil]]⟩ ∧ rows 4 = some ⟨1, 38, 2, [ie (bK x)]⟩) (fun K hK => ?_) ?_
  ·simp (disch := omega) [gw]
   refine bZ hL ?_
   refine hK _ _ (aB _ [0, 2, 4, 16]) ⟨_, _, rfl, ?_, ?_⟩ <;> simp [ie]
  rintro _ ⟨rows, clk, rfl, dP, iV⟩
  refine W.aaY (lead x < 0) rfl (fun h => ?_) (fun h => ?_)
  ·rw [kP, if_pos h]
   refine W.b8 (fun K hK => ?_)
   simp (disch := omega) [gw, iV]
   refine aD hN ?_
   simp (disch := omega) [gw, iV]
   exact hK _ ⟨_, aB _ [0, 2, 4], _, _, rfl, by simp [dP], by simp⟩
  ·rw [kP, if_neg h]
   refine W.skip ?_
   exact ⟨_, aB _ [0, 2, 4], _, _, rfl, dP, iV⟩
 rintro _ ⟨rows, clk, rfl, dP, iV⟩
 generalize kP x = c at *
 generalize qZ x = p at *
 refine W.sd ?_
 simp (disch := omega) [gw, iV]
 refine aD hO ?_
 simp (disch := omega) [gw, dP, iV]
 refine bH [2, 3] ?_
 exact bT
abbrev qd (x : List Int) (D : Int) : List Rat := x.map fun v => dE v D
theorem eX {v D : Int} (h : D ≠ 0) : dE v D = (v : Rat) / (D : Rat) := by rw [dE, if_neg h, Rat.divInt_eq_div]
theorem gI {D : Int} (h : D ≠ 0) : (D : Rat) ≠ 0 := fun h2 => h (by exact_mod_cast h2)
theorem vT {D : Int} (h : D ≠ 0) : dE 0 D = 0 := by rw [eX h]; simp [Rat.div_def]
theorem yV {v D : Int} (h : D ≠ 0) : dE v D = 0 ↔ v = 0 := by
 constructor
 ·intro h2
  rw [eX h] at h2
  have h3 := gI h
  have : (v : Rat) = 0 := by
   have h4 : (v : Rat) / (D : Rat) * D = 0 := by rw [h2]; grind
   rw [Rat.div_mul_cancel h3] at h4
   exact h4
  exact_mod_cast this
 ·rintro rfl; exact vT h
theorem TR {v D l : Int} (h : D ≠ 0) (hl : l ≠ 0) : dE (v * l) (D * l) = dE v D := by
 rw [eX h, eX (Int.mul_ne_zero h hl), Rat.intCast_mul, Rat.intCast_mul]
 have h1 := gI h
 have h2 := gI hl
 grind
theorem afX {v w D : Int} (h : D ≠ 0) : dE v D + dE w D = dE (v + w) D := by
 rw [eX h, eX h, eX h, Rat.intCast_add]
 have h1 := gI h
 grind
theorem TS {v D : Int} (h : D ≠ 0) : dE v D * (-1) = dE (-v) D := by
 rw [eX h, eX h, Rat.intCast_neg]
 have h1 := gI h
 grind
theorem abP {v w D : Int} (h : D ≠ 0) : (w : Rat) * dE v D = dE (w * v) D := by
 rw [eX h, eX h, Rat.intCast_mul]
 have h1 := gI h
 grind
theorem afY {v D l : Int} (h : D ≠ 0) (hl : l ≠ 0) : dE v D / (l : Rat) = dE v (D * l) := by
 rw [eX h, eX (Int.mul_ne_zero h hl), Rat.intCast_mul]
 have h1 := gI h
 have h2 := gI hl
 grind
theorem vU {D : Int} (h : D ≠ 0) : ∀ x : List Int, mX (qd x D) = qd (aN x) D
 | [] => rfl
 | a :: x => by
  have ih := vU h x
  simp only [qd, List.map_cons] at ih ⊢
  rw [mX, ih, aN]
  by_cases h1 : aN x = [] ∧ a = 0
  ·simp [h1, vT h]
  ·rw [if_neg h1, if_neg (by simpa [yV h] using h1)]; simp
theorem H8 {D : Int} (h : D ≠ 0) (x : List Int) (k : Nat) : nth (qd x D) k = dE (nth x k) D := zP (f := fun v => dE v D) (vT h) x k
theorem afZ {D : Int} (h : D ≠ 0) (x y : List Int) : abD (qd x D) (qd y D) = qd (gY x y) D := by
 rw [abD, gY, ← vU h]
 congr 1
 simp only [qd, List.length_map, List.map_map]
 congr 1
 funext k
 simp only [Function.comp_apply]
 rw [show nth (List.map (fun v => dE v D) x) k = _ from H8 h x k, show nth (List.map (fun v => dE v D) y) k = _ from H8 h y k, afX h]
theorem af0 {D : Int} (h : D ≠ 0) (x : List Int) : jY (qd x D) (-1) = qd (gH x) D := by
 rw [jY, gH, ← vU h]
 congr 1
 simp only [qd, List.map_map]
 congr 1
 funext k
 simp only [Function.comp_apply]
 exact TS h
theorem XJ {D : Int} (h : D ≠ 0) (y : List Int) (v : Int) : jY (qs y) (dE v D) = qd (aX y v) D := by
 rw [jY, aX, ← vU h]
 congr 1
 simp only [qd, qs, List.map_map]
 congr 1
 funext k
 simp only [Function.comp_apply]
 exact abP h
theorem QP {D l : Int} (h : D ≠ 0) (hl : l ≠ 0) (x : List Int) : qd (x.map (· * l)) (D * l) = qd x D := by
 simp only [qd, List.map_map]
 congr 1
 funext k
 simp only [Function.comp_apply]
 exact TR h hl
theorem H9 (x : List Int) : qd x 1 = qs x := by
 simp only [qd, qs, k8]
theorem tW {v D : Int} {k : Nat} (h : D ≠ 0) (hv : sz 2 v ≤ k) (hD : sz 2 D ≤ k) : ZR k (dE v D) := by
 refine ⟨Nat.le_trans (cZ (by decide) ?_) hv, Nat.le_trans (cZ (by decide) ?_) hD⟩
 ·rw [pD _ _ h]
  refine Nat.le_trans (Int.natAbs_ediv_le_natAbs _ _) ?_
  split <;> simp
 ·rw [pE _ _ h]
  refine Nat.le_trans (Int.natAbs_ediv_le_natAbs _ _) ?_
  split <;> simp
theorem QQ {x : List Int} {D : Int} {k n : Nat} (h : D ≠ 0) (hx : Bd 2 k n x) (hD : sz 2 D ≤ k) (hk : k ≤ YY) (hn : n < 1099511627776) : XC (qd x D) := ⟨fun q hq => by
 simp only [List.mem_map] at hq
 obtain ⟨v, hv, rfl⟩ := hq
 exact tW h (Nat.le_trans (hx.sz v hv) hk) (Nat.le_trans hD hk), by have := hx.len; simp; omega⟩
structure DS where
 Q : List Int
 r : List Int
 D : Int
def dst (y : List Int) (σ : DS) : DS := ⟨(σ.Q.map (· * lead y)).set (σ.r.length - y.length) (lead σ.r), wS y (lead y) (lead σ.r) (σ.r.length - y.length) σ.r, σ.D * lead y⟩
def XK (y : List Int) : Nat → DS → DS
 | 0, σ => σ
 | n + 1, σ => if σ.r.length < y.length then σ else XK y n (dst y σ)
def dmd (x y : List Int) : DS := XK y (x.length + 1) ⟨List.replicate (i0 x y) 0, x, 1⟩
theorem IA {y : List Int} {σ : DS} (hy : 0 < y.length) (h : y.length ≤ σ.r.length) : (dst y σ).r.length < σ.r.length := by
 have h1 := zT (b := y) (r := σ.r) (i := σ.r.length - y.length) hy (by omega)
 rw [show vE y σ.r (σ.r.length - y.length) = lead σ.r from by rw [vE, if_pos (by omega)]] at h1
 show (wS y (lead y) (lead σ.r) (σ.r.length - y.length) σ.r).length < _
 omega
theorem af1 {y : List Int} {σ : DS} (h : σ.r.length < y.length) : ∀ n, XK y n σ = σ
 | 0 => rfl
 | n + 1 => by rw [XK, if_pos h]
structure tX (x y : List Int) (σ : DS) : Prop where
 v : ∀ t, σ.D * V t x = V t σ.Q * V t y + V t σ.r
 z : ∀ j, j + y.length ≤ σ.r.length → nth σ.Q j = 0
 c : Cn σ.r
 d : σ.D ≠ 0
 q : σ.r.length + 1 ≤ σ.Q.length + y.length ∨ σ.r.length < y.length
theorem tX.step {x y : List Int} {σ : DS} (cy : Cn y) (hy : 0 < y.length) (h : y.length ≤ σ.r.length) (hI : tX x y σ) : tX x y (dst y σ) := by
 have hl := cK cy hy
 have cW := IA hy h
 have hq := hI.q.resolve_right (by omega)
 have hk : σ.r.length - y.length < (σ.Q.map (· * lead y)).length := by simp; omega
 have h1 := zT (b := y) (r := σ.r) (i := σ.r.length - y.length) hy (by omega)
 rw [show vE y σ.r (σ.r.length - y.length) = lead σ.r from by rw [vE, if_pos (by omega)]] at h1
 refine ⟨fun t => ?_, fun j hj => ?_, Cn.eZ _ _, Int.mul_ne_zero hI.d hl, ?_⟩
 ·have h2 := hI.v t
  have h3 := FJ (b := t) (x := lead σ.r) hk
  have h4 : nth (σ.Q.map (· * lead y)) (σ.r.length - y.length) = 0 := by
   rw [i3, hI.z _ (by omega)]; simp
  show σ.D * lead y * V t x = V t ((σ.Q.map (· * lead y)).set (σ.r.length - y.length) (lead σ.r)) * V t y + V t (wS y (lead y) (lead σ.r) (σ.r.length - y.length) σ.r)
  rw [h3, h4, dV, wS, iO, dB, nH, cC]
  have h5 : σ.D * lead y * V t x = lead y * (σ.D * V t x) := by grind
  rw [h5, h2]; grind
 ·have hj : j + y.length ≤ (wS y (lead y) (lead σ.r) (σ.r.length - y.length) σ.r).length := hj
  show nth ((σ.Q.map (· * lead y)).set (σ.r.length - y.length) (lead σ.r)) j = 0
  rw [gG (by omega), i3, hI.z _ (by omega)]; simp
 ·left
  have : (dst y σ).Q.length = σ.Q.length := by simp [dst]
  omega
theorem tX.XK {x y : List Int} (cy : Cn y) (hy : 0 < y.length) : ∀ (n : Nat) (σ : DS), σ.r.length < n → tX x y σ → tX x y (XK y n σ) ∧ (Proofs.YtelhfbikiccfkaaGreat.XK y n σ).r.length < y.length
 | 0, σ, h, _ => by omega
 | n + 1, σ, h, hI => by
  rw [Proofs.YtelhfbikiccfkaaGreat.XK]
  split
  ·rename_i h1; exact ⟨hI, h1⟩
  ·rename_i h1
   exact tX.XK cy hy n _ (by have := IA (σ := σ) hy (by omega); omega) (hI.step cy hy (by omega))
theorem tX.start {x y : List Int} (cx : Cn x) : tX x y ⟨List.replicate (i0 x y) 0, x, 1⟩ := by
 refine ⟨fun t => ?_, fun j hj => ?_, cx, show (1 : Int) ≠ 0 by decide, ?_⟩
 ·simp [pQ]
 ·rcases Nat.lt_or_ge j (i0 x y) with h | h
  ·rw [cQ (by simpa using h)]; simp
  ·rw [gX (by simpa using h)]; rfl
 ·simp only [i0, List.length_replicate]; omega
theorem af2 {x y : List Int} (cx : Cn x) (cy : Cn y) (hy : 0 < y.length) : tX x y (dmd x y) ∧ (dmd x y).r.length < y.length := tX.XK cy hy _ _ (Nat.lt_succ_self _) (tX.start cx)
@[simp] theorem arA {l : List Rat} {i : Nat} {q : Rat} : iK (emap re l) i 0 [aI aF (aS DD q.num.natAbs), .bool (decide (q.num < 0)), aI aF (aS DD q.den), .bool false] = emap re (l.set i q) := zU (n := 4) (fun _ => rfl)
theorem CJ (x : List Int) : emap re (qs x) = emap ri x := by simp only [emap, qs, List.map_map, Function.comp_def, fO]
theorem abR (a b n : List Rat) (ha : XC a) (hb : XC b) (hn : jY b (-1) = n) (hn2 : XC n) : aG env.P 124 [PP a, PP b] (PP (abD a n)) := by
 have h1 := L3 b hb
 rw [hn] at h1
 have h2 := abE a n ha hn2
 refine bV [(0, PP a), (1, PP b)] Tryz.func124 ?_
 refine aA [0, 1] ?_
 refine iU ?_
 refine bZ h1 ?_
 refine cI [4] h2 ?_
 exact bT
def JX (l : List Rat) : Int := l.foldl (fun d q => (d * q.den).tdiv (Int.gcd d q.den)) 1
def TT (d : Int) (l : List Rat) : Int := l.foldl (fun (g : Int) q => (Int.gcd g ((q.num * d).tdiv q.den) : Int)) 0
theorem abS {l : List Rat} {i : Nat} (h : i < l.length) : JX (l.take (i + 1)) = (JX (l.take i) * (nth l i).den).tdiv (Int.gcd (JX (l.take i)) (nth l i).den) := by
 unfold JX; rw [bA h, List.foldl_append]; rfl
theorem abT {l : List Rat} {d : Int} {i : Nat} (h : i < l.length) : TT d (l.take (i + 1)) = (Int.gcd (TT d (l.take i)) (((nth l i).num * d).tdiv (nth l i).den) : Int) := by
 unfold TT; rw [bA h, List.foldl_append]; rfl
theorem abU (q : Rat) : RI (q.den : Int) = .ag [aI aF (aS DD q.den), .bool false] := by
 simp [show ¬ ((q.den : Int) < 0) by omega]
def QR (l : List Rat) : Rat := if (nth l (l.length - 1)).num < 0 then -(dE (TT (JX l) l) (JX l)) else dE (TT (JX l) l) (JX l)
def qpr (l : List Rat) : List Rat := jY l (1 / QR l)
theorem q9 (l : List Rat) {k : Nat} (hk : k ≤ YY) (hk1 : 1 ≤ k) (hl : ∀ q ∈ l, ZR k q) (DV : l.length < 1099511627776) (h0 : l ≠ [])
  (hd : ∀ i, sz 2 (JX (l.take i)) ≤ k) (H2 : ∀ i, 0 < JX (l.take i)) (hg : ∀ i, sz 2 (TT (JX l) (l.take i)) ≤ k)
  (hc : ZR YY (QR l)) (xC : QR l ≠ 0) (u0 : ZR YY (1 / QR l)) :
  aG env.P 168 [PP l] (.fH [RR (QR l), PP (qpr l)]) := by
 have hkY : k ≤ 137438953472 := hk
 have u1 : 0 < l.length := List.length_pos_iff.2 h0
 refine bV [(0, PP l)] Tryz.func168 ?_
 refine aA [0, 2] ?_
 refine aL [0, 2, 11] ?_
 refine bE ?_ ?_ <;> intro h
 ·exfalso; simp at h; exact h0 h
 refine W.skip ?_
 refine iU ?_
 refine aD (pC 1 (by decide) (by decide)) ?_
 simp (disch := omega) [gw]
 refine bH [0, 2, 4] ?_
 refine aL [0, 2, 4, 15, 16] ?_
 refine W.block ?_
 refine W.bC (fun n σ => ∃ (i : Nat) (d : Int) (rows : Pm.Rows) (clk : Nat), σ = ⟨fa [(0, PP l), (2, .ptr 2 0 0 0), (4, .ptr 4 1 0 0), (15, .int .i64 l.length), (16, .int .i64 i)], rows, clk⟩ ∧
  rows 2 = some ⟨0, 31, 4, [[.nil, .bool false, .nil, .bool false]]⟩ ∧ rows 4 = some ⟨1, 29, 2, [[aI aF (aS DD d.natAbs), .bool (decide (d < 0))]]⟩ ∧ n = l.length - i ∧ i ≤ l.length ∧ d = JX (l.take i)) l.length ?_ ?_
 ·exact ⟨_, .refl, 0, 1, _, _, rfl, by simp, by simp, by omega, by omega, by simp [JX]⟩
 rintro n _ ⟨i, d, rows, clk, rfl, dP, iV, hn, hi, hdv⟩
 refine cS [0, 2, 4, 15, 16, 17] ?_
 refine bE ?_ ?_ <;> intro h
 ·have hi : i < l.length := by simp at h; omega
  have hq := hl _ (bU hi)
  have hdi := hd i
  have hdp := H2 i
  have hs := abS hi
  rw [← hdv] at hs hdi hdp
  have hsn := hd (i + 1)
  have m1 := eH d (nth l i).den (by simp only [Z]; omega) (by have := hq.d; simp only [Z]; omega)
  have m2 := CB d (nth l i).den (by simp only [Y]; omega) (by have := hq.d; simp only [Y]; omega)
  have zm := b9 (b := 2) (by decide) hdi hq.d
  have hgp : 0 < Int.gcd d (nth l i).den := Int.gcd_pos_of_ne_zero_left _ (by omega)
  have zg : Y (Int.gcd d (nth l i).den : Int) := CA (y := d) (by simp only [Y]; omega) (by
   have := Int.le_of_dvd hdp (Int.gcd_dvd_left d ((nth l i).den : Int)); omega)
  have m3 := vM (d * (nth l i).den) (Int.gcd d (nth l i).den) (by omega) (by simp only [Y]; omega) zg
  rw [← hs] at m3
  rw [abU] at m1 m2
  generalize (Int.gcd d (nth l i).den : Int) = gg at *
  generalize d * ((nth l i).den : Int) = dd at *
  generalize O1 : JX (l.take (i + 1)) = d2 at *
  generalize XL : nth l i = q at *
  refine lG ?_
  refine W.sr ?_
  simp (disch := omega) [gw, XL]
  refine bH [0, 2, 4, 5, 15, 16] ?_
  refine W.N7 (fun K hK => ?_)
  simp (disch := omega) [gw, iV, XL]
  refine aD m1 ?_
  simp (disch := omega) [gw, iV, XL]
  refine aD m2 ?_
  simp (disch := omega) [gw, iV, XL]
  refine aD m3 ?_
  simp (disch := omega) [gw, iV, XL]
  refine bR (by refine ⟨?_, ?_⟩ <;> kernel_rfl) ?_
  simp (disch := omega) [gw]
  refine W.lw [0, 2, 4, 15, 16] hK ?_; clear hK K; simp
  refine W.b8 (fun K hK => ?_); simp (disch := omega) [gw]
  refine hK _ ⟨l.length - (i + 1), _, aB _ [0, 2, 4, 15, 16], by omega, i + 1, d2, _, _, rfl, by simp [dP], by simp, by omega, by omega, O1.symm⟩
 have hi : i = l.length := by simp at h; omega
 subst hi
 rw [List.take_length] at hdv
 have Z7 := hd l.length
 have hdp := H2 l.length
 rw [List.take_length, ← hdv] at Z7 hdp
 rw [← hdv] at hg
 have hqc : QR l = if (nth l (l.length - 1)).num < 0 then -(dE (TT d l) d) else dE (TT d l) d := by rw [hdv]; rfl
 refine fB ?_
 refine aA [0, 2, 4, 6] ?_
 refine W.row (id := 6) (els := [[.nil, .bool false]]) [[aI aF (aS DD 0), .bool false]] (by simp; first | exact ⟨rfl, rfl, rfl⟩ | exact ⟨rfl, rfl, rfl, rfl⟩) ⟨⟨.inr ⟨rfl, rfl⟩, .inl rfl, trivial⟩, trivial⟩ ?_
 refine aL [0, 2, 4, 6, 36, 37] ?_
 refine W.block ?_
 clear hdv
 refine W.bC (fun n σ => ∃ (i v6 : Nat) (g : Int) (rows : Pm.Rows) (clk : Nat), σ = ⟨fa [(0, PP l), (2, .ptr 2 0 0 0), (4, .ptr 4 1 0 0), (6, .ptr 6 v6 0 0), (36, .int .i64 l.length), (37, .int .i64 i)], rows, clk⟩ ∧
  rows 2 = some ⟨0, 31, 4, [[.nil, .bool false, .nil, .bool false]]⟩ ∧ rows 4 = some ⟨1, 29, 2, [[aI aF (aS DD d.natAbs), .bool (decide (d < 0))]]⟩ ∧
  rows 6 = some ⟨v6, 29, 2, [[aI aF (aS DD g.natAbs), .bool (decide (g < 0))]]⟩ ∧ n = l.length - i ∧ i ≤ l.length ∧ g = TT d (l.take i)) l.length ?_ ?_
 ·exact ⟨_, .refl, 0, _, 0, _, _, rfl, by simp [dP], by simp [iV], by simp, by omega, by omega, by simp [TT]⟩
 clear dP iV rows clk
 rintro n _ ⟨i, v6, g, rows, clk, rfl, dP, iV, vV, hn, hi, hgv⟩
 refine cS [0, 2, 4, 6, 36, 37, 38] ?_
 refine bE ?_ ?_ <;> intro h
 ·have hi : i < l.length := by simp at h; omega
  have hq := hl _ (bU hi)
  have hgi := hg i
  have hs := abT (d := d) hi
  rw [← hgv] at hs hgi
  have m1 := eH (nth l i).num d (by have := hq.n; simp only [Z]; omega) (by simp only [Z]; omega)
  have zm := b9 (b := 2) (by decide) hq.n Z7
  have m2 := vM ((nth l i).num * d) (nth l i).den (by have := (nth l i).den_nz; omega) (by simp only [Y]; omega) (by have := hq.d; simp only [Y]; omega)
  have zq : Y (((nth l i).num * d).tdiv (nth l i).den) := CA (y := (nth l i).num * d) (by simp only [Y]; omega) (by rw [Int.natAbs_tdiv]; exact Nat.div_le_self _ _)
  have m3 := CB g (((nth l i).num * d).tdiv (nth l i).den) (by simp only [Y]; omega) zq
  rw [← hs] at m3
  rw [abU] at m2
  generalize ((nth l i).num * d).tdiv (nth l i).den = nq at *
  generalize (nth l i).num * d = nd at *
  generalize n4 : TT d (l.take (i + 1)) = g2 at *
  generalize XL : nth l i = q at *
  refine lG ?_
  refine W.sr ?_
  simp (disch := omega) [gw, XL]
  refine bH [0, 2, 4, 6, 7, 36, 37] ?_
  refine W.N7 (fun K hK => ?_)
  simp (disch := omega) [gw, iV, vV, XL]
  refine aD m1 ?_
  simp (disch := omega) [gw, iV, vV, XL]
  refine aD m2 ?_
  simp (disch := omega) [gw, iV, vV, XL]
  refine aD m3 ?_
  simp (disch := omega) [gw, iV, vV, XL]
  refine bR (by kernel_rfl) ?_
  simp (disch := omega) [gw]
  refine W.lw [0, 2, 4, 6, 36, 37] hK ?_; clear hK K; simp
  refine W.b8 (fun K hK => ?_); simp (disch := omega) [gw]
  refine hK _ ⟨l.length - (i + 1), _, aB _ [0, 2, 4, 6, 36, 37], by omega, i + 1, v6, g2, _, _, rfl, by simp [dP], by simp [iV], by simp, by omega, by omega, n4.symm⟩
 have hi : i = l.length := by simp at h; omega
 subst hi
 rw [List.take_length] at hgv
 have hgl := hg l.length
 rw [List.take_length] at hgl
 rw [← hgv] at hgl hqc
 have hMk := lK g d (by simp only [Y]; omega) (by simp only [Y]; omega)
 have hNg := CD (dE g d)
 have hQ := CF 1 (QR l) ⟨by show sz 2 1 ≤ YY; exact Nat.le_trans (dD (k := 1) (by decide) (by decide)) (by decide), by show sz 2 1 ≤ YY; exact Nat.le_trans (dD (k := 1) (by decide) (by decide)) (by decide)⟩ hc xC
 have hOf := pF 1 1 (by decide) (by decide)
 rw [k8, show (((1 : Int)) : Rat) = 1 by simp] at hOf
 have hSc := pG l (1 / QR l) ⟨fun q hq => ⟨Nat.le_trans (hl q hq).n hk, Nat.le_trans (hl q hq).d hk⟩, DV⟩ u0
 rw [show jY l (1 / QR l) = qpr l from rfl] at hSc
 have e1 : ((l.length : Int) - 1).toNat = l.length - 1 := by omega
 generalize qpr l = pr at *
 generalize iR : (1 : Rat) = one at *
 generalize one / QR l = ic at *
 generalize QR l = cc at *
 generalize hqm : dE g d = c0 at *
 generalize XL : nth l (l.length - 1) = q at *
 refine fB ?_
 refine W.sr ?_
 simp (disch := omega) [gw, iV, vV]
 refine cI [0, 2, 8] hMk ?_
 refine W.gS (fun σ => ∃ (v8 : Nat) (rows : Pm.Rows) (clk : Nat), σ = ⟨fa [(0, PP l), (2, .ptr 2 0 0 0), (8, .ptr 8 v8 0 0)], rows, clk⟩ ∧ rows 2 = some ⟨0, 31, 4, [[.nil, .bool false, .nil, .bool false]]⟩ ∧ rows 8 = some ⟨v8, 31, 4, [re cc]⟩) ?_ ?_
 ·refine W.sr ?_
  simp (disch := omega) [gw, e1, XL]
  refine bH [0, 2, 8, 66] ?_
  refine W.aaY (q.num < 0) rfl (fun h => ?_) (fun h => ?_)
  ·rw [if_pos h] at hqc
   rw [← hqc] at hNg
   refine W.b8 (fun K hK => ?_)
   simp (disch := omega) [gw]
   refine bZ hNg ?_
   exact hK _ ⟨_, aB _ [0, 2, 8], _, _, _, rfl, by simp [dP], by simp⟩
  ·rw [if_neg h] at hqc
   refine W.skip ?_
   exact ⟨_, aB _ [0, 2, 8], _, _, _, rfl, by simp [dP], by simp [hqc]⟩
 clear dP iV vV rows clk
 rintro _ ⟨v8, rows, clk, rfl, dP, zJ⟩
 refine W.sd ?_
 simp (disch := omega) [gw, zJ]
 refine aD hOf ?_
 simp (disch := omega) [gw, zJ]
 refine aD hQ ?_
 simp (disch := omega) [gw, zJ]
 refine aD hSc ?_
 simp (disch := omega) [gw, dP, zJ]
 refine bH [2, 3] ?_
 exact bT
theorem af3 (x : List Int) (hx : ∀ c ∈ x, Z c) (hl : x.length < 1099511627776) : aG env.P 33 [PI x] (Po x) := by
 refine bV [(0, PI x)] Tryz.func33 ?_
 refine aA [0] ?_
 refine aA [0, 3] ?_
 refine W.nil 3 3 38 2 (by simp) (by decide) (fun K hK => ?_)
 refine W.lw [0, 3] hK ?_; clear hK K; simp
 refine aL [0, 3, 6, 7] ?_
 refine W.block ?_
 refine W.bC (fun k σ => ∃ (i ver : Nat) (rows : Pm.Rows) (clk : Nat), σ = ⟨fa [(0, PI x), (3, .own 3 ver 0 i), (6, .int .i64 x.length), (7, .int .i64 i)], rows, clk⟩ ∧ rows 3 = some ⟨ver, 38, 2, emap ie (x.take i)⟩ ∧ k = x.length - i ∧ i ≤ x.length) x.length ?_ ?_
 ·exact ⟨_, .refl, 0, _, _, _, rfl, by simp [emap], by omega, by omega⟩
 rintro k _ ⟨i, ver, rows, clk, rfl, hr, hk, hi⟩
 refine cS [0, 3, 6, 7, 8] ?_
 refine W.cond ⟨_, rfl, fun h0 => ?_, fun h0 => ?_⟩
 ·have h0 : i < x.length := by simp at h0; omega
  have fX : (x.take i).length = i := by simp; omega
  have hT := H3 (nth x i) (hx _ (bU h0))
  refine lG ?_
  refine aA [0, 3, 4, 6, 7] ?_
  refine W.b8 (fun K hK => ?_)
  simp (disch := omega) [gw]
  refine aD hT ?_
  simp (disch := omega) [gw, hr, fX]
  refine W.lw [0, 3, 6, 7] hK ?_; clear hK K; simp
  refine W.b8 (fun K hK => ?_); simp (disch := omega) [gw]
  refine hK _ ⟨x.length - (i + 1), _, aB _ [0, 3, 6, 7], by omega, i + 1, _, _, _, rfl, ?_, by omega, by omega⟩
  rw [bA h0]
  simp
 ·have l6 : i = x.length := by simp at h0; omega
  subst l6
  rw [List.take_length] at hr
  refine fB ?_
  refine W.sr ?_
  simp (disch := omega) [gw, hr]
  refine bH [2] ?_
  refine W.ret ?_
  simp [go, hr]
theorem IB (x : List Int) : JX (qs x) = 1 := by
 have key : ∀ l : List Int, (qs l).foldl (fun (d : Int) q => (d * q.den).tdiv (Int.gcd d q.den)) 1 = 1 := by
  intro l
  induction l with
  | nil => rfl
  | cons a l ih =>
   simp only [qs, List.map_cons, List.foldl_cons, Rat.den_intCast] at ih ⊢
   exact ih
 exact key x
theorem abV (x : List Int) : TT 1 (qs x) = bK x := by
 have key : ∀ (l : List Int) (g : Nat), (qs l).foldl (fun (g : Int) q => (Int.gcd g ((q.num * 1).tdiv q.den) : Int)) g = (l.foldl (fun g c => Nat.gcd g c.natAbs) g : Nat) := by
  intro l
  induction l with
  | nil => intro g; rfl
  | cons a l ih =>
   intro g
   have := ih (Nat.gcd g a.natAbs)
   simp only [qs, List.map_cons, List.foldl_cons, Rat.den_intCast, Rat.num_intCast] at this ⊢
   rw [← this]
   congr 1
   simp [Int.gcd]
 exact key x 0
theorem IC (x : List Int) (i : Nat) : (qs x).take i = qs (x.take i) := by simp [qs, List.map_take]
theorem CK {x : List Int} (hx : 0 < x.length) : QR (qs x) = (kP x : Rat) := by
 have e : (nth (qs x) ((qs x).length - 1)).num = lead x := by rw [abF]; simp [lead]
 unfold QR kP
 rw [IB, abV, k8, e]
 split
 ·rw [Rat.intCast_neg]
 ·rfl
theorem alD {x : List Int} (cx : Cn x) (hx : x ≠ []) : qpr (qs x) = qs (qZ x) := by
 have n9 := List.length_pos_iff.2 hx
 have h0 := nI x
 have gx := cD cx hx
 have hp : kP x ≠ 0 := by omega
 have hc := gI hp
 rw [qpr, CK n9, jY, qZ, ← vO]
 congr 1
 simp only [qs, List.map_map]
 refine List.map_congr_left fun v hv => ?_
 simp only [Function.comp_apply]
 have hd := H6 x v hv
 obtain ⟨w, rfl⟩ := hd
 have : p8 (kP x) (kP x * w) = w := by
  unfold p8
  rw [if_pos (Int.mul_emod_right _ _)]
  exact Int.mul_ediv_cancel_left _ hp
 rw [this, Rat.intCast_mul]
 grind
theorem mA {x : List Int} {s : Nat} (hs : ∀ c ∈ x, sz 2 c ≤ s) : sz 2 (bK x : Int) ≤ s := by
 by_cases h : ∃ c ∈ x, c ≠ 0
 ·obtain ⟨c, hc, h0⟩ := h
  refine Nat.le_trans (cZ (by decide) ?_) (hs c hc)
  have := Int.le_of_dvd (a := (bK x : Int)) (b := (c.natAbs : Int)) (by omega) (Int.dvd_natAbs.2 (iA x _ hc))
  omega
 ·have h1 : bK x = 0 := by
   have h2 : (0 : Nat) ∣ bK x := CI fun c hc => by
    have : c = 0 := Classical.byContradiction fun h3 => h ⟨c, hc, h3⟩
    rw [this]; exact Int.dvd_refl _
   exact Nat.eq_zero_of_zero_dvd h2
  rw [h1]; show sz 2 0 ≤ s; rw [jW]; omega
theorem CL (x : List Int) {s n : Nat} (hx : Bd 2 s n x) (cx : Cn x) (p7 : 1 ≤ s) (hs : s ≤ YY) (hn : n < 1099511627776) : aG env.P 168 [PI x] (.fH [.ag (ri (kP x)), PI (qZ x)]) := by
 have hlx := hx.len
 by_cases h0 : x = []
 ·subst h0
  have hz := oP
  rw [show kP ([] : List Int) = 0 by decide, show qZ ([] : List Int) = [] from rfl]
  refine bV [(0, PI [])] Tryz.func168 ?_
  refine aA [0, 2] ?_
  refine aL [0, 2, 11] ?_
  refine bE ?_ ?_ <;> intro h
  ·refine aK [2, 3] hz ?_
   refine W.ret ?_
   simp [go]
   all_goals rfl
  ·simp at h
 ·have n9 := List.length_pos_iff.2 h0
  have hp := nI x
  have gx := cD cx h0
  have hp0 : kP x ≠ 0 := by omega
  have hgs : ∀ i, sz 2 (bK (x.take i) : Int) ≤ s := fun i => mA fun c hc => hx.sz c (List.mem_of_mem_take hc)
  have yT : sz 2 (kP x) ≤ s := by
   have := mA hx.sz
   unfold kP; split
   ·rw [o7]; exact this
   ·exact this
  have s1 : sz 2 1 ≤ 1 := dD (by decide) (by decide)
  have zc : ZR YY (kP x : Rat) := oA (Nat.le_trans yT hs) (by decide)
  have e1 : (1 : Rat) / (kP x : Rat) = dE 1 (kP x) := by rw [eX hp0]; simp
  have := q9 (qs x) hs p7 (fun q hq => by
   simp only [qs, List.mem_map] at hq
   obtain ⟨c, hc, rfl⟩ := hq
   exact oA (hx.sz c hc) p7) (by simp; omega) (by simpa [qs] using h0)
   (fun i => by rw [IC, IB]; omega) (fun i => by rw [IC, IB]; decide) (fun i => by rw [IB, IC, abV]; exact hgs i)
   (by rw [CK n9]; exact zc) (by rw [CK n9]; exact gI hp0) (by rw [CK n9, e1]; exact tW hp0 (by show sz 2 1 ≤ 137438953472; omega) (Nat.le_trans yT hs))
  rw [CK n9, alD cx h0, pS, pS, RR, fO] at this
  exact this
theorem XM {D a b : Nat} (hD : 0 < D) (ha : a ∣ D) (hb : b ∣ D) : Nat.lcm (D / a) (D / b) = D / Nat.gcd a b := by
 have ha0 : 0 < a := Nat.pos_of_dvd_of_pos ha hD
 have hb0 : 0 < b := Nat.pos_of_dvd_of_pos hb hD
 have hg : 0 < Nat.gcd a b := Nat.gcd_pos_of_pos_left _ ha0
 obtain ⟨a', b', hc, ea, eb⟩ := Nat.exists_coprime a b
 generalize Nat.gcd a b = g at *
 obtain ⟨p, hp⟩ := ha
 obtain ⟨q, hq⟩ := hb
 have h1 : a' * p = b' * q := by
  have : g * (a' * p) = g * (b' * q) := by rw [ea] at hp; rw [eb] at hq; grind
  exact Nat.eq_of_mul_eq_mul_left hg this
 have h2 : a' ∣ q := hc.dvd_of_dvd_mul_left (by rw [← h1]; exact Nat.dvd_mul_right _ _)
 obtain ⟨m, rfl⟩ := h2
 have awH : 0 < a' := by
  rcases Nat.eq_zero_or_pos a' with h | h
  ·rw [h] at ea; omega
  ·exact h
 have h3 : p = b' * m := by
  have : a' * p = a' * (b' * m) := by rw [h1]; grind
  exact Nat.eq_of_mul_eq_mul_left awH this
 subst h3
 have e1 : D / a = b' * m := by rw [hp]; exact Nat.mul_div_cancel_left _ ha0
 have e2 : D / b = a' * m := by rw [hq]; exact Nat.mul_div_cancel_left _ hb0
 have e3 : D / g = a' * b' * m := by
  rw [hp, ea, show a' * g * (b' * m) = g * (a' * b' * m) by grind]
  exact Nat.mul_div_cancel_left _ hg
 rw [e1, e2, e3, Nat.lcm_mul_right, Nat.lcm_comm, Nat.lcm, show a'.gcd b' = 1 from hc, Nat.div_one]
theorem abW (n : Nat) (q : Rat) : ((n : Int) * q.den).tdiv (Int.gcd n q.den) = (Nat.lcm n q.den : Nat) := by
 have : Int.gcd (n : Int) (q.den : Int) = Nat.gcd n q.den := rfl
 rw [this, ← Int.natCast_mul, ← Int.ofNat_tdiv]
 rfl
theorem yW {v : Int} {D : Nat} (hD : 0 < D) : (dE v D).den = D / Nat.gcd D v.natAbs := by
 have h := pE v D (by omega)
 have h2 : ¬ (D : Int) < 0 := by omega
 simp only [h2, if_false] at h
 have : Int.gcd v (D : Int) = Nat.gcd D v.natAbs := by rw [Int.gcd, Nat.gcd_comm]; rfl
 rw [this] at h
 exact_mod_cast h
theorem yX {v : Int} {D : Nat} (hD : 0 < D) : (dE v D).num = v / (Nat.gcd D v.natAbs : Nat) := by
 have h := pD v D (by omega)
 have h2 : ¬ (D : Int) < 0 := by omega
 simp only [h2, if_false] at h
 have : Int.gcd v (D : Int) = Nat.gcd D v.natAbs := by rw [Int.gcd, Nat.gcd_comm]; rfl
 rw [this] at h
 exact h
def Y9 (D : Nat) (x : List Int) : Nat := Nat.gcd D (bK x)
theorem ID {D : Nat} (hD : 0 < D) (x : List Int) : JX (qd x D) = (D / Y9 D x : Nat) := by
 have key : ∀ (l : List Int) (g : Nat), g ∣ D → (qd l D).foldl (fun (d : Int) q => (d * q.den).tdiv (Int.gcd d q.den)) (D / g : Nat) = (D / (l.foldl (fun g c => Nat.gcd g c.natAbs) g) : Nat) := by
  intro l
  induction l with
  | nil => intro g _; rfl
  | cons a l ih =>
   intro g hg
   have h1 := ih (Nat.gcd g a.natAbs) (Nat.dvd_trans (Nat.gcd_dvd_left _ _) hg)
   simp only [qd, List.map_cons, List.foldl_cons] at h1 ⊢
   rw [abW, yW hD, XM hD hg (Nat.gcd_dvd_left _ _)]
   rw [show Nat.gcd g (Nat.gcd D a.natAbs) = Nat.gcd g a.natAbs by rw [← Nat.gcd_assoc, Nat.gcd_eq_left hg]]
   exact h1
 have h2 : ∀ (l : List Int) (g : Nat), l.foldl (fun g c => Nat.gcd g c.natAbs) g = Nat.gcd g (bK l) := by
  intro l
  unfold bK
  induction l with
  | nil => intro g; simp
  | cons a l ih =>
   intro g
   simp only [List.foldl_cons]
   rw [ih, ih (Nat.gcd 0 a.natAbs), Nat.gcd_zero_left, Nat.gcd_assoc]
 have h3 := key x D (Nat.dvd_refl _)
 rw [Nat.div_self hD, h2] at h3
 exact h3
theorem abX {D : Nat} (hD : 0 < D) (x : List Int) {G : Nat} (hG : G ∣ D) (hx : ∀ c ∈ x, (G : Int) ∣ c) : TT (D / G : Nat) (qd x D) = (bK x / G : Nat) := by
 have hG0 : 0 < G := Nat.pos_of_dvd_of_pos hG hD
 have key : ∀ (l : List Int) (g : Nat), (∀ c ∈ l, (G : Int) ∣ c) → G ∣ g → (qd l D).foldl (fun (g : Int) q => (Int.gcd g ((q.num * ((D / G : Nat) : Int)).tdiv q.den) : Int)) (g / G : Nat) = ((l.foldl (fun g c => Nat.gcd g c.natAbs) g) / G : Nat) := by
  intro l
  induction l with
  | nil => intro g _ _; rfl
  | cons a l ih =>
   intro g hl hg
   have ha : G ∣ a.natAbs := Int.ofNat_dvd_left.1 (hl a (by simp))
   have h1 := ih (Nat.gcd g a.natAbs) (fun c hc => hl c (by simp [hc])) (Nat.dvd_gcd hg ha)
   simp only [qd, List.map_cons, List.foldl_cons] at h1 ⊢
   have e : ((dE a D).num * ((D / G : Nat) : Int)).tdiv (dE a D).den = a / (G : Int) := by
    rw [yX hD, yW hD]
    have H2 : Nat.gcd D a.natAbs ∣ D := Nat.gcd_dvd_left _ _
    have O1 : Nat.gcd D a.natAbs ∣ a.natAbs := Nat.gcd_dvd_right _ _
    have hgp : 0 < Nat.gcd D a.natAbs := Nat.gcd_pos_of_pos_left _ hD
    generalize Nat.gcd D a.natAbs = k at *
    obtain ⟨m, hm⟩ := H2
    obtain ⟨n, hn⟩ : (k : Int) ∣ a := Int.ofNat_dvd_left.2 O1
    obtain ⟨p, hp⟩ := hG
    obtain ⟨r, hr⟩ := hl a (by simp)
    have N4 : 0 < m := by
     rcases Nat.eq_zero_or_pos m with h | h
     ·rw [h] at hm; omega
     ·exact h
    rw [show a / (k : Int) = n by rw [hn]; exact Int.mul_ediv_cancel_left _ (by omega), show D / G = p by rw [hp]; exact Nat.mul_div_cancel_left _ hG0, show D / k = m by rw [hm]; exact Nat.mul_div_cancel_left _ hgp,
     show a / (G : Int) = r by rw [hr]; exact Int.mul_ediv_cancel_left _ (by omega)]
    have e2 : n * (p : Int) = m * r := by
     have hDI : (k : Int) * m = G * p := by exact_mod_cast hm.symm.trans hp
     have hk : (k : Int) * n = G * r := hn.symm.trans hr
     have B4 : (k : Int) ≠ 0 := by omega
     have hG1 : (G : Int) ≠ 0 := by omega
     have : (k : Int) * G * (n * p) = k * G * (m * r) := by
      have e3 : (k : Int) * G * (n * p) = (k * n) * (G * p) := by grind
      rw [e3, hk, ← hDI]; grind
     exact Int.eq_of_mul_eq_mul_left (Int.mul_ne_zero B4 hG1) this
    rw [e2]
    exact Int.mul_tdiv_cancel_left _ (by omega)
   rw [e, show Int.gcd ((g / G : Nat) : Int) (a / (G : Int)) = Nat.gcd g a.natAbs / G from ?_]
   ·exact h1
   ·rw [Int.gcd, Int.natAbs_natCast, ← Nat.gcd_div hg ha]
    congr 1
    obtain ⟨r, hr⟩ := hl a (by simp)
    rw [hr, Int.mul_ediv_cancel_left _ (show (G : Int) ≠ 0 by omega), Int.natAbs_mul, Int.natAbs_natCast, Nat.mul_div_cancel_left _ hG0]
 have := key x 0 hx (Nat.dvd_zero _)
 rw [Nat.zero_div] at this
 exact this
theorem vW (D : Nat) (x : List Int) : Y9 D x ∣ D := Nat.gcd_dvd_left _ _
theorem TU {D : Nat} (hD : 0 < D) (x : List Int) : 0 < Y9 D x := Nat.gcd_pos_of_pos_left _ hD
theorem TV (D : Nat) (x : List Int) : ∀ c ∈ x, ((Y9 D x : Nat) : Int) ∣ c := fun c hc => Int.dvd_trans (Int.ofNat_dvd.2 (Nat.gcd_dvd_right _ _)) (iA x c hc)
theorem yY {v : Int} {D : Nat} (hD : 0 < D) : (dE v D).num < 0 ↔ v < 0 := by
 rw [yX hD]
 have hg : 0 < Nat.gcd D v.natAbs := Nat.gcd_pos_of_pos_left _ hD
 obtain ⟨n, hn⟩ : ((Nat.gcd D v.natAbs : Nat) : Int) ∣ v := Int.ofNat_dvd_left.2 (Nat.gcd_dvd_right _ _)
 generalize Nat.gcd D v.natAbs = g at *
 rw [hn, Int.mul_ediv_cancel_left _ (show (g : Int) ≠ 0 by omega)]
 constructor
 ·intro h; exact Int.mul_neg_of_pos_of_neg (by omega) h
 ·intro h
  rcases Int.lt_or_le n 0 with h1 | h1
  ·exact h1
  ·have := Int.mul_nonneg (show (0 : Int) ≤ g by omega) h1
   omega
theorem abY {D : Nat} (hD : 0 < D) {x : List Int} (hx : 0 < x.length) : QR (qd x D) = dE (kP x) D := by
 have wU : (D : Int) ≠ 0 := by omega
 have e : (nth (qd x D) ((qd x D).length - 1)).num < 0 ↔ lead x < 0 := by
  rw [H8 wU, yY hD]; simp [lead]
 have hG := TU hD x
 have e2 : dE (TT (JX (qd x D)) (qd x D)) (JX (qd x D)) = dE (bK x) D := by
  rw [ID hD, abX hD x (vW D x) (TV D x)]
  have h1 : D / Y9 D x * Y9 D x = D := Nat.div_mul_cancel (vW D x)
  have h2 : bK x / Y9 D x * Y9 D x = bK x := Nat.div_mul_cancel (Nat.gcd_dvd_right _ _)
  have h3 : 0 < D / Y9 D x := Nat.div_pos (Nat.le_of_dvd hD (vW D x)) hG
  have h4 := TR (v := (bK x / Y9 D x : Nat)) (D := (D / Y9 D x : Nat)) (l := (Y9 D x : Nat)) (by omega) (by omega)
  rw [← Int.natCast_mul, ← Int.natCast_mul, h1, h2] at h4
  exact h4.symm
 unfold QR kP
 rw [e2]
 by_cases h : lead x < 0
 ·rw [if_pos (e.2 h), if_pos h, ← TS wU]; grind
 ·rw [if_neg (fun h2 => h (e.1 h2)), if_neg h]
theorem TW {v D : Int} (hD : D ≠ 0) (hv : v ≠ 0) : 1 / dE v D = dE D v := by
 rw [eX hD, eX hv]
 have h1 := gI hD
 have h2 := gI hv
 grind
theorem QS {x : List Int} (cx : Cn x) (hx : x ≠ []) : kP x ≠ 0 := by
 have h0 := nI x
 have gx := cD cx hx
 omega
theorem alF {D : Nat} (hD : 0 < D) {x : List Int} (cx : Cn x) (hx : x ≠ []) : qpr (qd x D) = qs (qZ x) := by
 have n9 := List.length_pos_iff.2 hx
 have wU : (D : Int) ≠ 0 := by omega
 have hp := QS cx hx
 have hc := gI hp
 have hDc := gI wU
 rw [qpr, abY hD n9, TW wU hp, jY, qZ, ← vO]
 congr 1
 simp only [qd, qs, List.map_map]
 refine List.map_congr_left fun v hv => ?_
 simp only [Function.comp_apply]
 obtain ⟨w, rfl⟩ := H6 x v hv
 have : p8 (kP x) (kP x * w) = w := by
  unfold p8
  rw [if_pos (Int.mul_emod_right _ _)]
  exact Int.mul_ediv_cancel_left _ hp
 rw [this, eX wU, eX hp, Rat.intCast_mul]
 grind
theorem MD (x : List Int) : jM x = if lead x < 0 then gH (qZ x) else qZ x := by
 unfold qZ kP
 split
 ·have e : ∀ v, p8 (-(bK x : Int)) v = - p8 (bK x) v := fun v => by
   unfold p8
   rw [Int.emod_neg, Int.ediv_neg]
   split <;> simp
  refine Cn.ext (Cn.cut _) (Cn.gH _) fun t => ?_
  rw [BL, cV, jM, cV]
  have h1 := gP (t := t) (-1) (p8 (bK x)) x
  have h2 : (x.map fun v => p8 (bK x) v * -1) = x.map (p8 (-(bK x : Int))) := List.map_congr_left fun v _ => by rw [e]; omega
  rw [h2] at h1
  rw [h1]; omega
 ·rfl
theorem QT (x : List Int) (D : Nat) (hD : 0 < D) {s n : Nat} (hx : Bd 2 s n x) (sD : sz 2 D ≤ s) (cx : Cn x) (h0 : x ≠ []) (p7 : 1 ≤ s) (hs : s ≤ YY) (hn : n < 1099511627776) :
  aG env.P 168 [PP (qd x D)] (.fH [RR (dE (kP x) D), PI (qZ x)]) := by
 have wU : (D : Int) ≠ 0 := by omega
 have n9 := List.length_pos_iff.2 h0
 have hp := QS cx h0
 have hlen := hx.len
 have sdiv : ∀ (a b : Nat), sz 2 (a : Int) ≤ s → sz 2 ((a / b : Nat) : Int) ≤ s := fun a b h => Nat.le_trans (cZ (by decide) (by rw [Int.natAbs_natCast, Int.natAbs_natCast]; exact Nat.div_le_self a b)) h
 have spc : sz 2 (kP x) ≤ s := by
  have := mA hx.sz
  refine Nat.le_trans (cZ (by decide) (Nat.le_of_eq ?_)) this
  rw [nI]; rfl
 have tk : ∀ i, (qd x D).take i = qd (x.take i) D := fun i => by simp [qd, List.map_take]
 have hc := abY hD n9
 have h1 := q9 (qd x D) (k := s) hs p7 (fun q hq => by
   simp only [List.mem_map] at hq
   obtain ⟨v, hv, rfl⟩ := hq
   exact tW wU (hx.sz v hv) sD) (by simp; omega) (by simpa using h0)
  (fun i => by rw [tk, ID hD]; exact sdiv _ _ sD)
  (fun i => by
   rw [tk, ID hD]
   have := Nat.div_pos (Nat.le_of_dvd hD (vW D (x.take i))) (TU hD _)
   omega)
  (fun i => by
   rw [tk, ID hD, abX hD (x.take i) (vW D x) (fun c hc => TV D x c (List.mem_of_mem_take hc))]
   exact sdiv _ _ (mA fun c hc => hx.sz c (List.mem_of_mem_take hc)))
  (by rw [hc]; exact tW wU (Nat.le_trans spc hs) (Nat.le_trans sD hs))
  (by rw [hc]; exact fun h => hp ((yV wU).1 h))
  (by rw [hc, TW wU hp]; exact tW hp (Nat.le_trans sD hs) (Nat.le_trans spc hs))
 rw [hc, alF hD cx h0, pS] at h1
 exact h1
theorem abZ {x : List Int} {s n : Nat} (hx : Bd 2 s n x) : Bd 2 s n (qZ x) := Bd.cut ⟨by simpa using hx.len, fun c hc => by
 simp only [List.mem_map] at hc
 obtain ⟨v, hv, rfl⟩ := hc
 refine Nat.le_trans (cZ (by decide) ?_) (hx.sz v hv)
 unfold p8
 split
 ·exact Int.natAbs_ediv_le_natAbs _ _
 ·simp⟩
theorem ME (x : List Int) (D : Nat) (hD : 0 < D) {s n : Nat} (hx : Bd 2 s n x) (sD : sz 2 D ≤ s) (cx : Cn x) (p7 : 1 ≤ s) (hs : s ≤ YY) (hn : n < 1099511627776) :
  aG env.P 171 [PP (qd x D)] (PI (jM x)) := by
 have wU : (D : Int) ≠ 0 := by omega
 have bp := abZ hx
 have hN := FY (qZ x) (bp.mono hs (by omega))
 rw [MD]
 have hP : ∃ q : Rat, aG env.P 168 [PP (qd x D)] (.fH [RR q, PI (qZ x)]) ∧ (q.num < 0 ↔ lead x < 0) := by
  by_cases h0 : x = []
  ·subst h0
   refine ⟨(kP [] : Int), ?_, ?_⟩
   ·have := CL [] hx cx p7 hs hn
    rw [RR, fO]
    exact this
   ·rw [show kP ([] : List Int) = 0 by decide]; decide
  ·refine ⟨_, QT x D hD hx sD cx h0 p7 hs hn, ?_⟩
   rw [yY hD]
   have gx := cD cx h0
   unfold kP
   split <;> omega
 obtain ⟨q, hP, hq⟩ := hP
 generalize qZ x = y at *
 generalize qd x D = l at *
 refine bV [(0, PP l)] Tryz.func171 ?_
 refine aA [0] ?_
 refine aK [3, 4] hP ?_
 refine aL [4, 12] ?_
 refine bE ?_ ?_ <;> intro h
 ·simp at h
  rw [if_pos (hq.1 h)]
  refine aK [2] hN ?_
  exact bT
 ·have h : ¬ q.num < 0 := by simpa using h
  rw [if_neg (fun h2 => h (hq.2 h2))]
  refine W.skip ?_
  refine aA [2] ?_
  exact bT
theorem MF (x y : List Int) {s s' N : Nat} (hx : Bd 2 s N x) (hy : Bd 2 s' N y) (cx : Cn x) (cy : Cn y) (P9 : 0 < y.length) (hs : 1 ≤ s) (hB : s + (N + 1) * (s' + N + 2) + s' + N + N + 10 < 137438953472) :
  aG env.P 240 [PP (qs x), PP (qs y)] (.fH [PP (qd (aN (dmd x y).Q) (dmd x y).D), PP (qd (dmd x y).r (dmd x y).D)]) := by
 have hNx := hx.len
 have hNy := hy.len
 have hl := cK cy P9
 have hls := fS hy
 have hM : x.length + 1 ≤ N + 1 := by omega
 refine cT (E := env) (fun id => if id = 17 then 2 else 0) [(0, PP (qs x)), (1, PP (qs y))] Tryz.func240 rfl (by kernel_rfl) (by kernel_rfl) (show 2 ≤ 84 by decide) (by simp) ?_
 obtain ⟨R0, KF⟩ : ∃ R0, R0 = XK y (x.length + 1) ⟨List.replicate (i0 x y) 0, x, 1⟩ := ⟨_, rfl⟩
 rw [show dmd x y = R0 from KF.symm]
 have hkN : i0 x y ≤ N := by unfold i0; omega
 have hkk : (if (x.length : Int) - (y.length : Int) + 1 < 0 then 0 else (x.length : Int) - (y.length : Int) + 1) = (i0 x y : Int) := by unfold i0; split <;> omega
 have hI0 : tX x y ⟨List.replicate (i0 x y) 0, x, 1⟩ := tX.start cx
 generalize B4 : i0 x y = k0 at *
 obtain ⟨a0, ha0⟩ : ∃ a0, a0 = qs x := ⟨_, rfl⟩
 obtain ⟨yq, hyq⟩ : ∃ yq, yq = qs y := ⟨_, rfl⟩
 have la0 : a0.length = x.length := by rw [ha0]; simp
 have lyq : yq.length = y.length := by rw [hyq]; simp
 rw [← ha0, ← hyq]
 refine aA [0, 1] ?_
 refine W.sr ?_
 simp (disch := omega) [gw, la0, lyq, hkk]
 refine bH [0, 1, 6] ?_
 refine aL [0, 1, 6, 21, 22] ?_
 refine W.block ?_
 refine W.bC (fun k σ => ∃ (i ver : Nat) (els : List (List PV)) (rows : Pm.Rows) (clk : Nat), σ = ⟨fa [(0, PP a0), (1, PP yq), (6, .own 19 ver 0 k0), (21, .int .i64 k0), (22, .int .i64 i)], rows, clk⟩ ∧
  rows 19 = some ⟨ver, 31, 4, els⟩ ∧ els.length = k0 ∧ (∀ e ∈ els, e.length = 4) ∧ els.take i = emap ri (List.replicate i 0) ∧ k = k0 - i ∧ i ≤ k0) k0 ?_ ?_
 ·exact ⟨_, .refl, 0, _, List.replicate k0 [.nil, .bool false, .nil, .bool false], _, _, rfl, by simp, by simp, by simp, by simp [emap], by omega, by omega⟩
 rintro k _ ⟨i, ver, els, rows, clk, rfl, hr, mF, L5, pZ, hk, hi⟩
 have P7 : bF 4 els = True := by simp only [bF, eq_iff_iff, iff_true]; exact L5
 refine cS [0, 1, 6, 21, 22, 23] ?_
 refine bE ?_ ?_ <;> intro h
 ·have h : i < k0 := by simp at h; omega
  refine lG ?_
  refine aA [0, 1, 6, 7, 21, 22] ?_
  refine W.b8 (fun K hK => ?_)
  simp (disch := omega) [gw]
  refine aD oP ?_
  have tV : i < els.length := by omega
  have hE : s7 els i 4 = True := by
   simp only [eq_iff_iff, iff_true]
   exact ⟨els[i], List.getElem?_eq_getElem tV, by rw [L5 _ (List.getElem_mem tV)]; omega⟩
  have hS : iK els i 0 [aI aF (aS DD 0), .bool false, aI aF (aS DD 1), .bool false] = els.set i (ri 0) := by
   have h4 := L5 _ (List.getElem_mem tV)
   rw [iK, List.getElem?_eq_getElem tV]
   simp [List.drop_of_length_le, h4]
  simp (disch := omega) [gw, hr, hE, hS]
  refine W.lw [0, 1, 6, 21, 22] hK ?_; clear hK K; simp
  refine W.b8 (fun K hK => ?_); simp (disch := omega) [gw]
  refine hK _ ⟨k0 - (i + 1), _, aB _ [0, 1, 6, 21, 22], by omega, i + 1, ver, els.set i (ri 0), _, _, rfl, by simp, by simpa using mF, fun e he => ?_, ?_, by omega, by omega⟩
  ·rcases List.mem_or_eq_of_mem_set he with h1 | h1
   ·exact L5 e h1
   ·rw [h1]; rfl
  ·rw [lI pZ (by omega), List.replicate_succ']
   simp [emap]
 have h : i = k0 := by simp at h; omega
 subst h
 have n3 : els = emap re (qd (List.replicate i 0) 1) := by rw [H9, CJ, ← pZ, bJ mF]
 subst n3
 rw [show a0 = qd x 1 by rw [ha0, H9]]
 clear pZ L5 mF P7 hk hi hkk ha0 la0 a0
 refine fB ?_
 refine W.seq ?_
 refine W.block ?_
 generalize hdd : s' + N + 2 = d at *
 have hNN : ∀ j, (x.length + 1 - j) * d ≤ (N + 1) * d := fun j => Nat.mul_le_mul_right _ (by omega)
 refine W.bC (fun n σ => ∃ (Q r : List Int) (D : Int) (v6 : Nat) (rows : Pm.Rows) (clk : Nat), σ = ⟨fa [(0, PP (qd r D)), (1, PP yq), (6, .own 19 v6 0 i)], rows, clk⟩ ∧
  rows 19 = some ⟨v6, 31, 4, emap re (qd Q D)⟩ ∧ Q.length = i ∧ tX x y ⟨Q, r, D⟩ ∧ r.length < n ∧ n ≤ x.length + 1 ∧ XK y n ⟨Q, r, D⟩ = R0 ∧ Bd 2 (s + (x.length + 1 - n) * d) N r ∧ sz 2 D ≤ s + (x.length + 1 - n) * d) (x.length + 1) ?_ ?_
 ·exact ⟨_, aB _ [0, 1, 6], _, x, 1, _, _, _, rfl, hr, by simp, hI0, by omega, by omega, KF.symm, hx.mono (by omega) (by omega), Nat.le_trans (dD (k := 1) (by decide) (by decide)) (by omega)⟩
 clear hr rows clk ver
 rintro n _ ⟨Q, r, D, v6, rows, clk, rfl, hr, hQ, hI, hrn, hnM, hd, br, bD⟩
 have hD : D ≠ 0 := hI.d
 have hnn := hNN n
 obtain ⟨a, ha⟩ : ∃ a, a = qd r D := ⟨_, rfl⟩
 have la : a.length = r.length := by rw [ha]; simp
 rw [← ha]
 refine W.seq ?_
 refine W.sr ?_
 simp (disch := omega) [gw, la, lyq]
 refine bH [0, 1, 6, 34] ?_
 refine bE ?_ ?_ <;> intro h
 ·have h : y.length ≤ r.length := by simp at h; omega
  obtain ⟨n, rfl⟩ : ∃ m, n = m + 1 := ⟨n - 1, by omega⟩
  obtain ⟨k, hk⟩ : ∃ k, k = r.length - y.length := ⟨_, rfl⟩
  have hkI : (r.length : Int) - (y.length : Int) = k := by omega
  have hki : k < i := by have := hI.q.resolve_right (show ¬ r.length < y.length by omega); simp only at this; omega
  have hI2 := hI.step cy P9 h
  have JV := IA (σ := ⟨Q, r, D⟩) P9 h
  rw [XK, if_neg (show ¬ r.length < y.length by omega)] at hd
  simp only [dst, ← hk] at hI2 JV hd
  have hT : s + (x.length + 1 - n) * d = s + (x.length + 1 - (n + 1)) * d + d := by
   rw [show x.length + 1 - n = (x.length + 1 - (n + 1)) + 1 by omega, Nat.add_mul, Nat.one_mul]; omega
  have hn3 := hNN n
  generalize hU : s + (x.length + 1 - (n + 1)) * d = U at *
  have hlr := fS br
  have hNr := br.len
  have DY : D * lead y ≠ 0 := Int.mul_ne_zero hD hl
  have zD2 : sz 2 (D * lead y) ≤ U + s' := b9 (by decide) bD hls
  have hp : nth a (r.length - 1) = dE (lead r) D := by rw [ha, H8 hD]; rfl
  have N8 : nth yq (y.length - 1) = (lead y : Rat) := by rw [hyq, abF]; rfl
  have arF := CF (dE (lead r) D) (lead y : Rat) (tW hD (Nat.le_trans hlr (by show U ≤ 137438953472; omega)) (Nat.le_trans bD (by show U ≤ 137438953472; omega))) (oA (Nat.le_trans hls (by show s' ≤ 137438953472; omega)) (by decide)) (gI hl)
  rw [afY hD hl] at arF
  have hSc := pG yq (dE (lead r) (D * lead y)) (by rw [hyq]; exact XC.qs (fun c hc => Nat.le_trans (hy.sz c hc) (by show s' ≤ 137438953472; omega)) (by omega)) (tW DY (Nat.le_trans hlr (by show U ≤ 137438953472; omega)) (Nat.le_trans zD2 (by show U + s' ≤ 137438953472; omega)))
  rw [hyq, XJ DY, ← hyq] at hSc
  have bsc : Bd 2 (U + s') N (aX y (lead r)) := (hy.aX (by decide) hlr).mono (by omega) (by omega)
  have bw : Bd 2 (U + s') N (List.replicate k 0 ++ aX y (lead r)) := ⟨by have := o9 y (lead r); simp; omega, fun c hc => by
   rcases List.mem_append.1 hc with h1 | h1
   ·rw [(List.mem_replicate.1 h1).2, jW]; omega
   ·exact bsc.sz c h1⟩
  have brl : Bd 2 (U + s') N (r.map (· * lead y)) := ⟨by simpa using br.len, fun c hc => by
   simp only [List.mem_map] at hc
   obtain ⟨v, hv, rfl⟩ := hc
   exact b9 (by decide) (br.sz v hv) hls⟩
  have hSu := abR (qd (r.map (· * lead y)) (D * lead y)) (qd (List.replicate k 0 ++ aX y (lead r)) (D * lead y)) _
   (QQ DY brl zD2 (by show U + s' ≤ 137438953472; omega) (by omega)) (QQ DY bw zD2 (by show U + s' ≤ 137438953472; omega) (by omega)) (af0 DY _) (QQ DY bw.gH zD2 (by show U + s' ≤ 137438953472; omega) (by omega))
  rw [afZ DY, QP hD hl, ← ha] at hSu
  have er : gY (r.map (· * lead y)) (gH (List.replicate k 0 ++ aX y (lead r))) = wS y (lead y) (lead r) k r := Cn.ext (Cn.gY _ _) (Cn.eZ _ _) fun t => by
   rw [qQ, dV, BL, dU, pQ, cC, wS, iO, cC, dB, nH, List.length_replicate]; grind
  have br2 : Bd 2 (U + d) N (wS y (lead y) (lead r) k r) := by
   rw [← er]
   exact (Bd.gY (by decide) brl bw.gH).mono (by omega) (by omega)
  rw [er] at hSu
  have ew : qd (List.replicate k 0 ++ aX y (lead r)) (D * lead y) = List.replicate k 0 ++ qd (aX y (lead r)) (D * lead y) := by
   simp only [qd, List.map_append, List.map_replicate, vT DY]
  rw [ew] at hSu
  have lb : (qd (aX y (lead r)) (D * lead y)).length ≤ N := by have := bsc.len; simpa using this
  have abH : (qd Q D).set k (dE (lead r) (D * lead y)) = qd ((Q.map (· * lead y)).set k (lead r)) (D * lead y) := by
   rw [← QP hD hl Q, qd, qd, List.map_set]
  have hQl : (qd Q D).length = i := by simpa using hQ
  refine W.skip ?_
  refine W.block ?_
  generalize hz : qd Q D = z at *
  generalize qd (aX y (lead r)) (D * lead y) = b at *
  generalize QU : dE (lead r) (D * lead y) = c at *
  generalize hp2 : dE (lead r) D = p at *
  generalize hlq : (lead y : Rat) = lq at *
  generalize ha2 : qd (wS y (lead y) (lead r) k r) (D * lead y) = a2 at *
  refine W.sr ?_
  simp (disch := omega) [gw, la, lyq, hkI]
  refine bH [0, 1, 6, 8] ?_
  have aBs : 0 < r.length := by omega
  have e1 : ((r.length : Int) - 1).toNat = r.length - 1 := by omega
  have e2 : ((y.length : Int) - 1).toNat = y.length - 1 := by omega
  refine W.sd ?_
  simp (disch := omega) [gw, la, lyq, e1, e2, hp, N8]
  refine bZ arF ?_
  rw [if_pos (by kernel_rfl)]
  simp (disch := omega) [gw]
  refine bH [0, 1, 6, 8, 9] ?_
  have hkl : k < z.length := by omega
  refine W.sr ?_
  simp (disch := omega) [gw, hr, hkl]
  refine bH [0, 1, 6, 8, 9] ?_
  refine aA [0, 1, 6, 8, 9, 10] ?_
  refine aL [0, 1, 6, 8, 9, 10, 60, 61] ?_
  refine W.block ?_
  refine W.bC (fun m σ => ∃ (j v9 v10 v6 : Nat) (els : List (List PV)) (rows : Pm.Rows) (clk : Nat), σ = ⟨fa [(0, PP a), (1, PP yq), (6, .own 19 v6 0 i), (9, .ptr 9 v9 0 0), (10, .own 58 v10 0 k), (60, .int .i64 k), (61, .int .i64 j)], rows, clk⟩ ∧
   rows 19 = some ⟨v6, 31, 4, emap re (z.set k c)⟩ ∧ rows 9 = some ⟨v9, 31, 4, [[aI aF (aS DD c.num.natAbs), .bool (decide (c.num < 0)), aI aF (aS DD c.den), .bool false]]⟩ ∧
   rows 58 = some ⟨v10, 31, 4, els⟩ ∧ els.length = k ∧ (∀ e ∈ els, e.length = 4) ∧ els.take j = emap ri (List.replicate j 0) ∧ m = k - j ∧ j ≤ k) k ?_ ?_
  ·exact ⟨_, aB _ [0, 1, 6, 9, 10, 60, 61], 0, _, _, _, List.replicate k [.nil, .bool false, .nil, .bool false], _, _, rfl, by simp [hr], by simp, by simp, by simp, by simp, by simp [emap], by omega, by omega⟩
  clear hr rows clk v6
  rintro m _ ⟨j, v9, v10, v6, els, rows, clk, rfl, hr, XN, L7, mF, L5, pZ, hm, hj⟩
  have P7 : bF 4 els = True := by simp only [bF, eq_iff_iff, iff_true]; exact L5
  refine cS [0, 1, 6, 9, 10, 60, 61, 62] ?_
  refine bE ?_ ?_ <;> intro h
  ·have h : j < k := by simp at h; omega
   refine lG ?_
   refine aA [0, 1, 6, 9, 10, 11, 60, 61] ?_
   refine W.b8 (fun K hK => ?_)
   simp (disch := omega) [gw]
   refine aD oP ?_
   have tV : j < els.length := by omega
   have hE : s7 els j 4 = True := by
    simp only [eq_iff_iff, iff_true]
    exact ⟨els[j], List.getElem?_eq_getElem tV, by rw [L5 _ (List.getElem_mem tV)]; omega⟩
   have hS : iK els j 0 [aI aF (aS DD 0), .bool false, aI aF (aS DD 1), .bool false] = els.set j (ri 0) := by
    have h4 := L5 _ (List.getElem_mem tV)
    rw [iK, List.getElem?_eq_getElem tV]
    simp [List.drop_of_length_le, h4]
   simp (disch := omega) [gw, L7, hE, hS]
   refine W.lw [0, 1, 6, 9, 10, 60, 61] hK ?_; clear hK K; simp
   refine W.b8 (fun K hK => ?_); simp (disch := omega) [gw]
   refine hK _ ⟨k - (j + 1), _, aB _ [0, 1, 6, 9, 10, 60, 61], by omega, j + 1, v9, v10, v6, els.set j (ri 0), _, _, rfl, by simp [hr], by simp [XN], by simp, by simpa using mF, fun e he => ?_, ?_, by omega, by omega⟩
   ·rcases List.mem_or_eq_of_mem_set he with h1 | h1
    ·exact L5 e h1
    ·rw [h1]; rfl
   ·rw [lI pZ (by omega), List.replicate_succ']
    simp [emap]
  have h : j = k := by simp at h; omega
  subst h
  have n3 : els = emap re (List.replicate j 0) := by
   have h1 : emap ri (List.replicate j 0) = emap re (List.replicate j 0) := by simp [emap, fO]
   rw [← h1, ← pZ, bJ mF]
  subst n3
  clear pZ L5 mF P7
  refine fB ?_
  refine W.N7 (fun K hK => ?_)
  rw [if_pos rfl, eJ]
  have hsl : ((List.take r.length a).drop 0) = a := by rw [List.drop_zero, List.take_of_length_le (by omega)]
  simp (disch := omega) [gw, la, lyq, XN, HE, hsl]
  refine aD hSc ?_
  have wR : List.take (j + b.length) (List.replicate j 0 ++ b) = List.replicate j 0 ++ b := List.take_of_length_le (by simp)
  simp (disch := omega) [gw, L7, wR]
  refine bZ hSu ?_
  subst ha2
  have dP : rows 19 = some ⟨v6, 31, 4, emap re (qd ((Q.map (· * lead y)).set j (lead r)) (D * lead y))⟩ := by rw [hr, abH]
  refine hK _ ⟨n, _, aB _ [0, 1, 6], by omega, (Q.map (· * lead y)).set j (lead r), wS y (lead y) (lead r) j r, D * lead y, v6, _, _, rfl, by simp [dP], by simpa using hQ, hI2, by omega, by omega, hd, ?_, ?_⟩
  ·rw [hT]; exact br2
  ·rw [hT]; exact Nat.le_trans zD2 (by omega)
 ·have h : r.length < y.length := by simp at h; omega
  rw [af1 h] at hd
  subst hd
  refine fB ?_
  have hcq := vP (qd Q D) (by simp; omega)
  rw [vU hD] at hcq
  have hQl : (qd Q D).length = i := by simpa using hQ
  have wT := bJ hQl
  rw [← ha]
  generalize qd Q D = z at *
  generalize qd (aN Q) D = z2 at *
  refine W.sr ?_
  simp (disch := omega) [gw, hr, wT]
  refine cI [4, 5] hcq ?_
  exact bT
theorem MG {x y : List Int} (cy : Cn y) (hy : 0 < y.length) : ∀ (j : Nat), j ≤ x.length → exs y j (List.replicate j 0 ++ x.drop j) (bL (aN (x.take j)) y) = some (x, [])
 | 0, _ => by
  have : bL (aN (x.take 0)) y = [] := Cn.ext (Cn.bL _ _) Cn.nil fun t => by rw [dB, cV]; simp [V]
  rw [exs, this]; rfl
 | j + 1, h => by
  have ih := MG (x := x) cy hy j (by omega)
  have hly := cK cy hy
  have ht := bA (l := x) (i := j) (by omega)
  have hdr : x.drop j = nth x j :: x.drop (j + 1) := by
   rw [List.drop_eq_getElem_cons (l := x) (i := j) (by omega), show nth x j = x[j] from cQ (by omega)]
  rw [exs]
  by_cases hv : nth x j = 0
  ·have hw : aN (x.take (j + 1)) = aN (x.take j) := by rw [ht, hv, jB]
   rw [hw]
   have h1 := qR (x := aN (x.take j)) hy
   have h2 := bP (x.take j)
   rw [List.length_take] at h2
   rw [if_pos (by omega), ← ih]
   rw [hdr, hv, List.replicate_succ', List.append_assoc]; rfl
  ·have hw : aN (x.take (j + 1)) = x.take j ++ [nth x j] := by rw [ht]; exact iF hv _
   have cw : Cn (x.take j ++ [nth x j]) := iF hv _
   have hwl : (x.take j ++ [nth x j]).length = j + 1 := by simp; omega
   have hlw : lead (x.take j ++ [nth x j]) = nth x j := by
    rw [lead, hwl, Nat.add_sub_cancel, cQ (by omega)]
    have : (x.take j).length = j := by simp; omega
    simp [List.getElem_append_right, this]
   rw [hw]
   have hl := jF cw cy (by omega) hy
   have hd := xA cw cy (by omega) hy
   rw [hwl] at hl
   rw [hlw] at hd
   rw [if_neg (by omega), hd, if_pos (Int.mul_emod_left _ _), Int.mul_ediv_cancel _ hly]
   have e1 : eZ (bL (x.take j ++ [nth x j]) y) (bL (pY j (nth x j)) y) = bL (aN (x.take j)) y := Cn.ext (Cn.eZ _ _) (Cn.bL _ _) fun t => by
    rw [iO, dB, dB, dB, cV, dU, nB, nH, show (x.take j).length = j by simp; omega]
    grind
   have e2 : (List.replicate (j + 1) 0 ++ x.drop (j + 1)).set j (nth x j) = List.replicate j 0 ++ x.drop j := by
    rw [hdr, List.replicate_succ', List.append_assoc, List.set_append_right _ _ (by simp)]
    simp
   rw [e1, e2]
   exact ih
theorem QV {x y : List Int} (cx : Cn x) (cy : Cn y) (hy : 0 < y.length) : exact (bL x y) y = some x := by
 have hk : i0 (bL x y) y = x.length := by
  rcases Nat.eq_zero_or_pos x.length with h | h
  ·have : x = [] := List.eq_nil_of_length_eq_zero h
   have e : bL x y = [] := Cn.ext (Cn.bL _ _) Cn.nil fun t => by rw [dB, this]; simp [V]
   rw [e, this]; simp [i0]; omega
  ·have := jF cx cy h hy
   unfold i0; omega
 have h1 := MG (x := x) cy hy x.length (Nat.le_refl _)
 rw [List.take_length, show aN x = x from cx, List.drop_length, List.append_nil] at h1
 rw [exact, hk, h1, exF, show aN x = x from cx]
theorem IE {y h : List Int} (cy : Cn y) (hy : 0 < y.length) (e : ∀ t, V t y * V t h = 0) : aN h = [] := by
 by_cases hh : aN h = []
 ·exact hh
 ·exfalso
  have h1 : bL y (aN h) = [] := Cn.ext (Cn.bL _ _) Cn.nil fun t => by rw [dB, cV, e]; rfl
  have h2 := jF cy (Cn.cut h) hy (List.length_pos_iff.2 hh)
  rw [h1] at h2
  have := List.length_pos_iff.2 hh
  simp at h2; omega
theorem MH {a b : List Int} (h : aN (eZ a b) = []) (t : Int) : V t a = V t b := by
 have h1 := iO (t := t) a b
 rw [← cV, h] at h1
 have : V t ([] : List Int) = 0 := rfl
 omega
theorem XO {D : Int} (h : D ≠ 0) (x : List Int) : qd (x.map (· * D)) D = qs x := by
 have := QP (D := 1) (l := D) (by decide) h x
 rw [Int.one_mul, H9] at this
 exact this
theorem ab1 {x y q : List Int} (cx : Cn x) (cy : Cn y) (hy : 0 < y.length) (cq : Cn q) (h : ∀ t, V t x = V t q * V t y) : qd (aN (dmd x y).Q) (dmd x y).D = qs q ∧ (dmd x y).r = [] := by
 obtain ⟨hI, hr⟩ := af2 cx cy hy
 generalize dmd x y = σ at *
 have hv := hI.v
 have e : ∀ t, V t σ.r = V t y * V t (eZ (q.map (· * σ.D)) σ.Q) := fun t => by
  have h1 := hv t
  rw [h] at h1
  rw [iO, dV]
  grind
 have h1 := FL hI.c cy hy e hr
 have h2 : aN (eZ (q.map (· * σ.D)) σ.Q) = [] := IE cy hy fun t => by rw [← e, h1]; rfl
 have e2 : aN σ.Q = q.map (· * σ.D) := Cn.ext (Cn.cut _) (kN cq hI.d) fun t => by rw [cV]; exact (MH h2 t).symm
 rw [e2]
 exact ⟨XO hI.d q, h1⟩
end Go.Proofs.YtelhfbikiccfkaaGreat
