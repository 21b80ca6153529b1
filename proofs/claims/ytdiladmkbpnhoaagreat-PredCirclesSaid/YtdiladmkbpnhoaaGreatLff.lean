import Derived.Test.YtdiladmkbpnhoaaGreatLfe
set_option linter.unusedSimpArgs false
set_option linter.unusedVariables false
namespace Go.Proofs.YtdiladmkbpnhoaaGreat
open Go Pm
theorem fok_i {x : List Int} (h : ∀ c ∈ x, sz LL c < 4294967296) (hl : x.length < 1099511627776) : FOK (x.map rw') := ⟨fun p hp => by
 simp only [List.mem_map] at hp
 obtain ⟨c, hc, rfl⟩ := hp
 exact ⟨Lim_dig hLL _, h c hc⟩, by simpa using hl⟩
theorem qFromI_ret {s n : Nat} {x : List Int} (cx : Cn x) (b : Bd LL s n x) (hs : s < 4294967296) (hn : n < 1099511627776) : Ret env.P 25 [Po x] (PI x) := by
 have := qFrom_ret (x.map rw') (fok_i (fun c hc => Nat.lt_of_le_of_lt (b.sz c hc) hs) (Nat.lt_of_le_of_lt b.len hn))
 rw [map_gv_rw, ← Po_eq, show cutR x = x from cx] at this
 exact this
theorem rFromI_ret {d : Int} (h : sz LL d < 4294967296) : Ret env.P 40 [I d] (RI d) := by
 have := rFrom_ret (decide (d < 0)) (dig LL d.natAbs) (by have : sz LL d = (dig LL d.natAbs).length := rfl; omega) (Lim_dig hLL _)
 rwa [iv_I] at this
theorem RC.Small.fok {c : RC} {k n : Nat} (h : c.Small k n) : FOK c.x ∧ FOK c.y := by
 have h2 := h.hn; have h3 := h.hk
 exact ⟨h.x.fok (by omega) (by omega), h.y.fok (by omega) (by omega)⟩
theorem RC.nc_OK (c : RC) : c.nc.OK := nC_OK (Cn.cut _) (Cn.cut _) _
theorem doc_scale {x y : List Int} (cx : Cn x) (cy : Cn y) (d : Int) : scaleQ (qs x) (qmk 1 (dN d)) = qd (nC x y d).x (nC x y d).d ∧ scaleQ (qs y) (qmk 1 (dN d)) = qd (nC x y d).y (nC x y d).d := by
 obtain ⟨h1, h2, h3⟩ := nC_back cx cy d
 have hg := cg_ne x y d
 have hp := (nC_OK cx cy d).pos
 have hd0 : (nC x y d).d ≠ 0 := by omega
 refine ⟨?_, ?_⟩
 ·rw [scaleQ_qd (dN_ne d), pscale_one cx]
  have := qd_mul hd0 hg (nC x y d).x
  rw [h1, h3] at this
  exact this
 ·rw [scaleQ_qd (dN_ne d), pscale_one cy]
  have := qd_mul hd0 hg (nC x y d).y
  rw [h2, h3] at this
  exact this
set_option maxHeartbeats 2000000 in
theorem From12_ret {c : RC} {k n : Nat} (h : c.Small k n) : Ret env.P 96 [.ag c.cells] (.ag c.nc.doc) := by
 have hY : YY = 137438953472 := rfl
 have h1 := h.h1; have h2 := h.hn; have h3 := h.hk; have h4 := h.ll
 obtain ⟨fx, fy⟩ := h.fok
 obtain ⟨bx, by_, bd, bi⟩ := h.bd2
 have ok := c.nc_OK
 have r1 := rFrom_ret c.s c.l (by omega) h.l
 have r2 := rZero_ret (iv c.s c.l)
 have o1 := rOf_ret 1 (by decide) (by decide)
 have q1 := qFrom_ret c.x fx
 have q2 := qFrom_ret c.y fy
 rw [show cutR (c.x.map gv) = cfs c.x from rfl] at q1
 rw [show cutR (c.y.map gv) = cfs c.y from rfl] at q2
 have hD := dN_ne (iv c.s c.l)
 have zD : sz 2 (dN (iv c.s c.l)) ≤ 32 * n := by
  unfold dN; split
  ·exact Nat.le_trans (sz_le (k := 1) (by decide) (by decide)) (by omega)
  ·exact bi
 have mk := Make_ret 1 (dN (iv c.s c.l)) (by decide) (by show sz 2 _ < _; omega)
 obtain ⟨q3, q4⟩ : scaleQ (qs (cfs c.x)) (qmk 1 (dN (iv c.s c.l))) = qd c.nc.x c.nc.d ∧ scaleQ (qs (cfs c.y)) (qmk 1 (dN (iv c.s c.l))) = qd c.nc.y c.nc.d := doc_scale (Cn.cut _) (Cn.cut _) _
 have z1 : ZR YY (qmk 1 (dN (iv c.s c.l))) := ZR_qmk hD (Nat.le_trans (sz_le (k := 1) (by decide) (by decide)) (by decide)) (by omega)
 have Qx : QOK (qs (cfs c.x)) := by rw [← qd_one]; exact QOK_qd (k := 32 * n) (n := k) (by decide) h.x.bd2.cut (Nat.le_trans (sz_le (k := 1) (by decide) (by decide)) (by omega)) (by omega) (by omega)
 have Qy : QOK (qs (cfs c.y)) := by rw [← qd_one]; exact QOK_qd (k := 32 * n) (n := k) (by decide) h.y.bd2.cut (Nat.le_trans (sz_le (k := 1) (by decide) (by decide)) (by omega)) (by omega) (by omega)
 have s1 := qScale_ret _ _ Qx z1
 have s2 := qScale_ret _ _ Qy z1
 rw [q3, PP_qs] at s1
 rw [q4, PP_qs] at s2
 have hnn : ((c.nc.d.toNat : Nat) : Int) = c.nc.d := by have := ok.pos; omega
 have nm := normal12_ret (x := c.nc.x) (y := c.nc.y) (D := c.nc.d.toNat) (k := 32 * n) (n := k) (by have := ok.pos; omega) ok.cx ok.cy (by
  have := ok.gcd
  rw [gcdL_cons] at this
  rw [gcD]
  have e : c.nc.d.toNat = c.nc.d.natAbs := by have := ok.pos; omega
  rw [e]; exact this) bx by_ (by rw [hnn]; exact bd) (by omega) (by omega) (by omega)
 rw [hnn] at nm
 have hdN : dN (iv c.s c.l) = if iv c.s c.l = 0 then 1 else iv c.s c.l := rfl
 clear q3 q4 z1 Qx Qy ok fx fy bx by_ bd bi zD hD hnn
 generalize dN (iv c.s c.l) = D at *
 generalize iv c.s c.l = d at *
 generalize qmk 1 D = qr at *
 generalize c.nc = r at *
 generalize cfs c.x = X at *
 generalize cfs c.y = Y0 at *
 simp only [RC.cells_def, CV.doc_def] at *
 generalize qd r.x r.d = ux at *
 generalize qd r.y r.d = uy at *
 refine ret_of_Wf (E := env) (fun _ => 0) [(0, .ag [Pg c.x, Pg c.y, .bool c.s, sls u32 c.l])] Tryz.func96 rfl (by kernel_rfl) (by kernel_rfl) (show 1 ≤ 25 by decide) (by simp) ?_
 refine W.sreg (fun K hK => ?_); simp (disch := omega) [gA, wA]; refine W.lv [1, 2] hK fun J j => ?_; clear hK K; simp; refine j _ ?_; clear j J
 refine W.sreg (fun K hK => ?_)
 simp (disch := omega) [gA, wA]
 refine callR r1 ?_
 simp (disch := omega) [gA, wA]
 refine W.lv [1, 2, 3] hK fun J j => ?_; clear hK K; simp; refine j _ ?_; clear j J
 refine W.seqJ (fun σ => ∃ (v1 v2 v3 : Nat) (rows : Pm.Rows) (clk : Nat), σ = ⟨fa [(1, .ptr 1 v1 0 0), (2, .ptr 2 v2 0 0), (3, .ptr 3 v3 0 0)], rows, clk⟩ ∧ rows 1 = some ⟨v1, 29, 4, [[Pg c.x, Pg c.y, .bool c.s, sls u32 c.l]]⟩ ∧ rows 2 = some ⟨v2, 57, 6, [[.nil, .nil, .nil, .nil, .bool false, .nil]]⟩ ∧
  rows 3 = some ⟨v3, 41, 2, [[sls i64e (dig DD D.natAbs), .bool (decide (D < 0))]]⟩) ?_ ?_
 ·refine W.sreg (fun K hK => ?_)
  simp (disch := omega) [gA, wA]
  refine callR r2 ?_
  simp (disch := omega) [gA, wA]
  refine W.lv [1, 2, 3, 9] hK fun J j => ?_; clear hK K; simp; refine j _ ?_; clear j J
  refine W.cond ⟨_, rfl, fun h => ?_, fun h => ?_⟩
  ·simp at h
   rw [if_pos h] at hdN
   subst hdN
   refine W.reg (fun K hK => ?_)
   simp (disch := omega) [gA, wA]
   refine callR o1 ?_
   simp (disch := omega) [gA, wA]
   exact hK _ ⟨_, Gh_fa _ [1, 2, 3], _, _, _, _, _, rfl, by simp, by simp, by simp⟩
  ·simp at h
   rw [if_neg h] at hdN
   subst hdN
   refine W.skip ?_
   exact ⟨_, Gh_fa _ [1, 2, 3], _, _, _, _, _, rfl, by simp, by simp, by simp⟩
 rintro _ ⟨v1, v2, v3, rows, clk, rfl, hr1, hr2, hr3⟩
 refine W.sdrw (fun K hK => ?_)
 simp (disch := omega) [gA, wA]
 refine callR o1 ?_
 simp (disch := omega) [gA, wA, hr3]
 refine callR mk ?_
 simp (disch := omega) [gA, wA]
 rw [if_pos (by kernel_rfl)]
 simp (disch := omega) [gA, wA]
 refine W.lv [1, 2, 4] hK fun J j => ?_; clear hK K; simp; refine j _ ?_; clear j J
 refine W.sdrw (fun K hK => ?_)
 simp (disch := omega) [gA, wA, hr1]
 refine callR q1 ?_
 simp (disch := omega) [gA, wA]
 refine callR s1 ?_
 simp (disch := omega) [gA, wA, hr1]
 refine callR q2 ?_
 simp (disch := omega) [gA, wA]
 refine callR s2 ?_
 simp (disch := omega) [gA, wA]
 refine callR nm ?_
 simp (disch := omega) [gA, wA, hr2]
 refine W.lv [2] hK fun J j => ?_; clear hK K; simp; refine j _ ?_; clear j J
 refine W.ret ?_
 simp [go]
end Go.Proofs.YtdiladmkbpnhoaaGreat
