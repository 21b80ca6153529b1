import Derived.Test.YtdiladmkbpnhoaaGreatLbs
set_option linter.unusedSimpArgs false
set_option linter.unusedVariables false
namespace Go.Proofs.YtdiladmkbpnhoaaGreat
open Go Pm
theorem lcm_parts {D a b : Nat} (hD : 0 < D) (ha : a ∣ D) (hb : b ∣ D) : Nat.lcm (D / a) (D / b) = D / Nat.gcd a b := by
 have ha0 : 0 < a := Nat.pos_of_dvd_of_pos ha hD
 have hb0 : 0 < b := Nat.pos_of_dvd_of_pos hb hD
 have hg : 0 < Nat.gcd a b := Nat.gcd_pos_of_pos_left _ ha0
 obtain ⟨a', b', hc, ea, eb⟩ := Nat.exists_coprime a b
 generalize Nat.gcd a b = g at *
 obtain ⟨p, hp⟩ := ha
 obtain ⟨q, hq⟩ := hb
 have h1 : a' * p = b' * q := by
  have : g * (a' * p) = g * (b' * q) := by rw [ea] at hp; rw [eb] at hq; grind
  exact Nat.eq_of_mul_eq_mul_left hg this
 have h2 : a' ∣ q := hc.dvd_of_dvd_mul_left (by rw [← h1]; exact Nat.dvd_mul_right _ _)
 obtain ⟨m, rfl⟩ := h2
 have ha'0 : 0 < a' := by
  rcases Nat.eq_zero_or_pos a' with h | h
  ·rw [h] at ea; omega
  ·exact h
 have h3 : p = b' * m := by
  have : a' * p = a' * (b' * m) := by rw [h1]; grind
  exact Nat.eq_of_mul_eq_mul_left ha'0 this
 subst h3
 have e1 : D / a = b' * m := by rw [hp]; exact Nat.mul_div_cancel_left _ ha0
 have e2 : D / b = a' * m := by rw [hq]; exact Nat.mul_div_cancel_left _ hb0
 have e3 : D / g = a' * b' * m := by
  rw [hp, ea, show a' * g * (b' * m) = g * (a' * b' * m) by grind]
  exact Nat.mul_div_cancel_left _ hg
 rw [e1, e2, e3, Nat.lcm_mul_right, Nat.lcm_comm, Nat.lcm, show a'.gcd b' = 1 from hc, Nat.div_one]
theorem dnF_step (n : Nat) (q : Rat) : ((n : Int) * q.den).tdiv (Int.gcd n q.den) = (Nat.lcm n q.den : Nat) := by
 have : Int.gcd (n : Int) (q.den : Int) = Nat.gcd n q.den := rfl
 rw [this, ← Int.natCast_mul, ← Int.ofNat_tdiv]
 rfl
theorem qmk_pos_den {v : Int} {D : Nat} (hD : 0 < D) : (qmk v D).den = D / Nat.gcd D v.natAbs := by
 have h := qmk_den v D (by omega)
 have h2 : ¬ (D : Int) < 0 := by omega
 simp only [h2, if_false] at h
 have : Int.gcd v (D : Int) = Nat.gcd D v.natAbs := by rw [Int.gcd, Nat.gcd_comm]; rfl
 rw [this] at h
 exact_mod_cast h
theorem qmk_pos_num {v : Int} {D : Nat} (hD : 0 < D) : (qmk v D).num = v / (Nat.gcd D v.natAbs : Nat) := by
 have h := qmk_num v D (by omega)
 have h2 : ¬ (D : Int) < 0 := by omega
 simp only [h2, if_false] at h
 have : Int.gcd v (D : Int) = Nat.gcd D v.natAbs := by rw [Int.gcd, Nat.gcd_comm]; rfl
 rw [this] at h
 exact h
def gcD (D : Nat) (x : List Int) : Nat := Nat.gcd D (gcdL x)
theorem dnF_qd {D : Nat} (hD : 0 < D) (x : List Int) : dnF (qd x D) = (D / gcD D x : Nat) := by
 have key : ∀ (l : List Int) (g : Nat), g ∣ D → (qd l D).foldl (fun (d : Int) q => (d * q.den).tdiv (Int.gcd d q.den)) (D / g : Nat) = (D / (l.foldl (fun g c => Nat.gcd g c.natAbs) g) : Nat) := by
  intro l
  induction l with
  | nil => intro g _; rfl
  | cons a l ih =>
   intro g hg
   have h1 := ih (Nat.gcd g a.natAbs) (Nat.dvd_trans (Nat.gcd_dvd_left _ _) hg)
   simp only [qd, List.map_cons, List.foldl_cons] at h1 ⊢
   rw [dnF_step, qmk_pos_den hD, lcm_parts hD hg (Nat.gcd_dvd_left _ _)]
   rw [show Nat.gcd g (Nat.gcd D a.natAbs) = Nat.gcd g a.natAbs by rw [← Nat.gcd_assoc, Nat.gcd_eq_left hg]]
   exact h1
 have h2 : ∀ (l : List Int) (g : Nat), l.foldl (fun g c => Nat.gcd g c.natAbs) g = Nat.gcd g (gcdL l) := by
  intro l
  unfold gcdL
  induction l with
  | nil => intro g; simp
  | cons a l ih =>
   intro g
   simp only [List.foldl_cons]
   rw [ih, ih (Nat.gcd 0 a.natAbs), Nat.gcd_zero_left, Nat.gcd_assoc]
 have h3 := key x D (Nat.dvd_refl _)
 rw [Nat.div_self hD, h2] at h3
 exact h3
theorem gnF_qd {D : Nat} (hD : 0 < D) (x : List Int) {G : Nat} (hG : G ∣ D) (hx : ∀ c ∈ x, (G : Int) ∣ c) : gnF (D / G : Nat) (qd x D) = (gcdL x / G : Nat) := by
 have hG0 : 0 < G := Nat.pos_of_dvd_of_pos hG hD
 have key : ∀ (l : List Int) (g : Nat), (∀ c ∈ l, (G : Int) ∣ c) → G ∣ g → (qd l D).foldl (fun (g : Int) q => (Int.gcd g ((q.num * ((D / G : Nat) : Int)).tdiv q.den) : Int)) (g / G : Nat) = ((l.foldl (fun g c => Nat.gcd g c.natAbs) g) / G : Nat) := by
  intro l
  induction l with
  | nil => intro g _ _; rfl
  | cons a l ih =>
   intro g hl hg
   have ha : G ∣ a.natAbs := Int.ofNat_dvd_left.1 (hl a (by simp))
   have h1 := ih (Nat.gcd g a.natAbs) (fun c hc => hl c (by simp [hc])) (Nat.dvd_gcd hg ha)
   simp only [qd, List.map_cons, List.foldl_cons] at h1 ⊢
   have e : ((qmk a D).num * ((D / G : Nat) : Int)).tdiv (qmk a D).den = a / (G : Int) := by
    rw [qmk_pos_num hD, qmk_pos_den hD]
    have hd1 : Nat.gcd D a.natAbs ∣ D := Nat.gcd_dvd_left _ _
    have hd2 : Nat.gcd D a.natAbs ∣ a.natAbs := Nat.gcd_dvd_right _ _
    have hgp : 0 < Nat.gcd D a.natAbs := Nat.gcd_pos_of_pos_left _ hD
    generalize Nat.gcd D a.natAbs = k at *
    obtain ⟨m, hm⟩ := hd1
    obtain ⟨n, hn⟩ : (k : Int) ∣ a := Int.ofNat_dvd_left.2 hd2
    obtain ⟨p, hp⟩ := hG
    obtain ⟨r, hr⟩ := hl a (by simp)
    have hm0 : 0 < m := by
     rcases Nat.eq_zero_or_pos m with h | h
     ·rw [h] at hm; omega
     ·exact h
    rw [show a / (k : Int) = n by rw [hn]; exact Int.mul_ediv_cancel_left _ (by omega), show D / G = p by rw [hp]; exact Nat.mul_div_cancel_left _ hG0, show D / k = m by rw [hm]; exact Nat.mul_div_cancel_left _ hgp,
     show a / (G : Int) = r by rw [hr]; exact Int.mul_ediv_cancel_left _ (by omega)]
    have e2 : n * (p : Int) = m * r := by
     have hDI : (k : Int) * m = G * p := by exact_mod_cast hm.symm.trans hp
     have hk : (k : Int) * n = G * r := hn.symm.trans hr
     have hk0 : (k : Int) ≠ 0 := by omega
     have hG1 : (G : Int) ≠ 0 := by omega
     have : (k : Int) * G * (n * p) = k * G * (m * r) := by
      have e3 : (k : Int) * G * (n * p) = (k * n) * (G * p) := by grind
      rw [e3, hk, ← hDI]; grind
     exact Int.eq_of_mul_eq_mul_left (Int.mul_ne_zero hk0 hG1) this
    rw [e2]
    exact Int.mul_tdiv_cancel_left _ (by omega)
   rw [e, show Int.gcd ((g / G : Nat) : Int) (a / (G : Int)) = Nat.gcd g a.natAbs / G from ?_]
   ·exact h1
   ·rw [Int.gcd, Int.natAbs_natCast, ← Nat.gcd_div hg ha]
    congr 1
    obtain ⟨r, hr⟩ := hl a (by simp)
    rw [hr, Int.mul_ediv_cancel_left _ (show (G : Int) ≠ 0 by omega), Int.natAbs_mul, Int.natAbs_natCast, Nat.mul_div_cancel_left _ hG0]
 have := key x 0 hx (Nat.dvd_zero _)
 rw [Nat.zero_div] at this
 exact this
theorem gcD_dvd (D : Nat) (x : List Int) : gcD D x ∣ D := Nat.gcd_dvd_left _ _
theorem gcD_pos {D : Nat} (hD : 0 < D) (x : List Int) : 0 < gcD D x := Nat.gcd_pos_of_pos_left _ hD
theorem gcD_mem (D : Nat) (x : List Int) : ∀ c ∈ x, ((gcD D x : Nat) : Int) ∣ c := fun c hc => Int.dvd_trans (Int.ofNat_dvd.2 (Nat.gcd_dvd_right _ _)) (gcdL_dvd x c hc)
theorem qmk_num_neg {v : Int} {D : Nat} (hD : 0 < D) : (qmk v D).num < 0 ↔ v < 0 := by
 rw [qmk_pos_num hD]
 have hg : 0 < Nat.gcd D v.natAbs := Nat.gcd_pos_of_pos_left _ hD
 obtain ⟨n, hn⟩ : ((Nat.gcd D v.natAbs : Nat) : Int) ∣ v := Int.ofNat_dvd_left.2 (Nat.gcd_dvd_right _ _)
 generalize Nat.gcd D v.natAbs = g at *
 rw [hn, Int.mul_ediv_cancel_left _ (show (g : Int) ≠ 0 by omega)]
 constructor
 ·intro h; exact Int.mul_neg_of_pos_of_neg (by omega) h
 ·intro h
  rcases Int.lt_or_le n 0 with h1 | h1
  ·exact h1
  ·have := Int.mul_nonneg (show (0 : Int) ≤ g by omega) h1
   omega
theorem qct_qd {D : Nat} (hD : 0 < D) {x : List Int} (hx : 0 < x.length) : qct (qd x D) = qmk (pcn x) D := by
 have hD0 : (D : Int) ≠ 0 := by omega
 have e : (nth (qd x D) ((qd x D).length - 1)).num < 0 ↔ lead x < 0 := by
  rw [nth_qd hD0, qmk_num_neg hD]; simp [lead]
 have hG := gcD_pos hD x
 have e2 : qmk (gnF (dnF (qd x D)) (qd x D)) (dnF (qd x D)) = qmk (gcdL x) D := by
  rw [dnF_qd hD, gnF_qd hD x (gcD_dvd D x) (gcD_mem D x)]
  have h1 : D / gcD D x * gcD D x = D := Nat.div_mul_cancel (gcD_dvd D x)
  have h2 : gcdL x / gcD D x * gcD D x = gcdL x := Nat.div_mul_cancel (Nat.gcd_dvd_right _ _)
  have h3 : 0 < D / gcD D x := Nat.div_pos (Nat.le_of_dvd hD (gcD_dvd D x)) hG
  have h4 := qmk_mul (v := (gcdL x / gcD D x : Nat)) (D := (D / gcD D x : Nat)) (l := (gcD D x : Nat)) (by omega) (by omega)
  rw [← Int.natCast_mul, ← Int.natCast_mul, h1, h2] at h4
  exact h4.symm
 unfold qct pcn
 rw [e2]
 by_cases h : lead x < 0
 ·rw [if_pos (e.2 h), if_pos h, ← qmk_neg hD0]; grind
 ·rw [if_neg (fun h2 => h (e.1 h2)), if_neg h]
theorem qmk_inv {v D : Int} (hD : D ≠ 0) (hv : v ≠ 0) : 1 / qmk v D = qmk D v := by
 rw [qmk_div hD, qmk_div hv]
 have h1 := cast_ne hD
 have h2 := cast_ne hv
 grind
theorem pcn_ne {x : List Int} (cx : Cn x) (hx : x ≠ []) : pcn x ≠ 0 := by
 have h0 := pcn_abs x
 have gx := gcdL_Cn_pos cx hx
 omega
theorem qpr_qd {D : Nat} (hD : 0 < D) {x : List Int} (cx : Cn x) (hx : x ≠ []) : qpr (qd x D) = qs (prv x) := by
 have hx0 := List.length_pos_iff.2 hx
 have hD0 : (D : Int) ≠ 0 := by omega
 have hp := pcn_ne cx hx
 have hc := cast_ne hp
 have hDc := cast_ne hD0
 rw [qpr, qct_qd hD hx0, qmk_inv hD0 hp, scaleQ, prv, ← cutQ_qs]
 congr 1
 simp only [qd, qs, List.map_map]
 refine List.map_congr_left fun v hv => ?_
 simp only [Function.comp_apply]
 obtain ⟨w, rfl⟩ := pcn_dvd x v hv
 have : exq (pcn x) (pcn x * w) = w := by
  unfold exq
  rw [if_pos (Int.mul_emod_right _ _)]
  exact Int.mul_ediv_cancel_left _ hp
 rw [this, qmk_div hD0, qmk_div hp, Rat.intCast_mul]
 grind
theorem prim_prv (x : List Int) : prim x = if lead x < 0 then pneg (prv x) else prv x := by
 unfold prv pcn
 split
 ·have e : ∀ v, exq (-(gcdL x : Int)) v = - exq (gcdL x) v := fun v => by
   unfold exq
   rw [Int.emod_neg, Int.ediv_neg]
   split <;> simp
  refine Cn.ext (Cn.cut _) (Cn.pneg _) fun t => ?_
  rw [V_pneg, V_cutR, prim, V_cutR]
  have h1 := V_map_mul (t := t) (-1) (exq (gcdL x)) x
  have h2 : (x.map fun v => exq (gcdL x) v * -1) = x.map (exq (-(gcdL x : Int))) := List.map_congr_left fun v _ => by rw [e]; omega
  rw [h2] at h1
  rw [h1]; omega
 ·rfl
theorem qPrimQ_ret (x : List Int) (D : Nat) (hD : 0 < D) {s n : Nat} (hx : Bd 2 s n x) (sD : sz 2 D ≤ s) (cx : Cn x) (h0 : x ≠ []) (hs1 : 1 ≤ s) (hs : s ≤ YY) (hn : n < 1099511627776) :
  Ret env.P 208 [PP (qd x D)] (.tup [RR (qmk (pcn x) D), PI (prv x)]) := by
 have hD0 : (D : Int) ≠ 0 := by omega
 have hx0 := List.length_pos_iff.2 h0
 have hp := pcn_ne cx h0
 have hlen := hx.len
 have sdiv : ∀ (a b : Nat), sz 2 (a : Int) ≤ s → sz 2 ((a / b : Nat) : Int) ≤ s := fun a b h => Nat.le_trans (sz_mono (by decide) (by rw [Int.natAbs_natCast, Int.natAbs_natCast]; exact Nat.div_le_self a b)) h
 have spc : sz 2 (pcn x) ≤ s := by
  have := gcdL_take_sz hx.sz
  refine Nat.le_trans (sz_mono (by decide) (Nat.le_of_eq ?_)) this
  rw [pcn_abs]; rfl
 have tk : ∀ i, (qd x D).take i = qd (x.take i) D := fun i => by simp [qd, List.map_take]
 have hc := qct_qd hD hx0
 have h1 := qPrimitive_ret (qd x D) (k := s) hs hs1 (fun q hq => by
   simp only [List.mem_map] at hq
   obtain ⟨v, hv, rfl⟩ := hq
   exact ZR_qmk hD0 (hx.sz v hv) sD) (by simp; omega) (by simpa using h0)
  (fun i => by rw [tk, dnF_qd hD]; exact sdiv _ _ sD)
  (fun i => by
   rw [tk, dnF_qd hD]
   have := Nat.div_pos (Nat.le_of_dvd hD (gcD_dvd D (x.take i))) (gcD_pos hD _)
   omega)
  (fun i => by
   rw [tk, dnF_qd hD, gnF_qd hD (x.take i) (gcD_dvd D x) (fun c hc => gcD_mem D x c (List.mem_of_mem_take hc))]
   exact sdiv _ _ (gcdL_take_sz fun c hc => hx.sz c (List.mem_of_mem_take hc)))
  (by rw [hc]; exact ZR_qmk hD0 (Nat.le_trans spc hs) (Nat.le_trans sD hs))
  (by rw [hc]; exact fun h => hp ((qmk_eq_zero hD0).1 h))
  (by rw [hc, qmk_inv hD0 hp]; exact ZR_qmk hp (Nat.le_trans sD hs) (Nat.le_trans spc hs))
 rw [hc, qpr_qd hD cx h0, PP_qs] at h1
 exact h1
theorem prv_bd {x : List Int} {s n : Nat} (hx : Bd 2 s n x) : Bd 2 s n (prv x) := Bd.cut ⟨by simpa using hx.len, fun c hc => by
 simp only [List.mem_map] at hc
 obtain ⟨v, hv, rfl⟩ := hc
 refine Nat.le_trans (sz_mono (by decide) ?_) (hx.sz v hv)
 unfold exq
 split
 ·exact Int.natAbs_ediv_le_natAbs _ _
 ·simp⟩
theorem qSizedQ_ret (x : List Int) (D : Nat) (hD : 0 < D) {s n : Nat} (hx : Bd 2 s n x) (sD : sz 2 D ≤ s) (cx : Cn x) (hs1 : 1 ≤ s) (hs : s ≤ YY) (hn : n < 1099511627776) :
  Ret env.P 161 [PP (qd x D)] (PI (prim x)) := by
 have hD0 : (D : Int) ≠ 0 := by omega
 have bp := prv_bd hx
 have hN := qNegI_ret (prv x) (bp.mono hs (by omega))
 rw [prim_prv]
 have hP : ∃ q : Rat, Ret env.P 208 [PP (qd x D)] (.tup [RR q, PI (prv x)]) ∧ (q.num < 0 ↔ lead x < 0) := by
  by_cases h0 : x = []
  ·subst h0
   refine ⟨(pcn [] : Int), ?_, ?_⟩
   ·have := qPrimI_ret [] hx cx hs1 hs hn
    rw [RR, re_int]
    exact this
   ·rw [show pcn ([] : List Int) = 0 by decide]; decide
  ·refine ⟨_, qPrimQ_ret x D hD hx sD cx h0 hs1 hs hn, ?_⟩
   rw [qmk_num_neg hD]
   have gx := gcdL_Cn_pos cx h0
   unfold pcn
   split <;> omega
 obtain ⟨q, hP, hq⟩ := hP
 generalize prv x = y at *
 generalize qd x D = l at *
 refine ret_of_Wf (E := env) (fun _ => 0) [(0, PP l)] Tryz.func161 rfl (by kernel_rfl) (by kernel_rfl) (show 1 ≤ 16 by decide) (by simp) ?_
 refine W.sreg (fun K hK => ?_); simp (disch := omega) [gA, wA]; refine W.lv [0] hK fun J j => ?_; clear hK K; simp; refine j _ ?_; clear j J
 refine W.sreg (fun K hK => ?_)
 simp (disch := omega) [gA, wA]
 refine callR hP ?_
 simp (disch := omega) [gA, wA]
 refine W.lv [3, 4] hK fun J j => ?_; clear hK K; simp; refine j _ ?_; clear j J
 refine W.seq ?_
 refine W.sreg (fun K hK => ?_); simp (disch := omega) [gA, wA]; refine W.lv [4, 12] hK fun J j => ?_; clear hK K; simp; refine j _ ?_; clear j J
 refine W.cond ⟨_, rfl, fun h => ?_, fun h => ?_⟩
 ·simp at h
  rw [if_pos (hq.1 h)]
  refine W.sreg (fun K hK => ?_)
  simp (disch := omega) [gA, wA]
  refine callR hN ?_
  simp (disch := omega) [gA, wA]
  refine W.lv [2] hK fun J j => ?_; clear hK K; simp; refine j _ ?_; clear j J
  refine W.ret ?_
  simp [go]
 ·have h : ¬ q.num < 0 := by simpa using h
  rw [if_neg (fun h2 => h (hq.2 h2))]
  refine W.skip ?_
  refine W.sreg (fun K hK => ?_); simp (disch := omega) [gA, wA]; refine W.lv [2] hK fun J j => ?_; clear hK K; simp; refine j _ ?_; clear j J
  refine W.ret ?_
  simp [go]
end Go.Proofs.YtdiladmkbpnhoaaGreat
