import Derived.Test.YtdiladmkbpnhoaaGreatMd
import Derived.Test.YtdiladmkbpnhoaaGreatLfw
import Derived.Test.YtdiladmkbpnhoaaGreatLfp
import Derived.Test.YtdiladmkbpnhoaaGreatLgc
set_option linter.unusedSimpArgs false
set_option linter.unusedVariables false
set_option linter.unusedSimpArgs false
set_option linter.unusedVariables false
namespace Pm
open Go
def lexLater (md : Region.Mode) (ops : Array Oper) (k : Nat) (o : Oper) : List Oper → Bool
 | [] => true
 | p :: l => (p.after.any (fun e => Region.binds md e && e.on == k) || o.apart ops p) && lexLater md ops k o l
def lexF (md : Region.Mode) (ops : Array Oper) : Nat → List Oper → Bool
 | _, [] => true
 | k, o :: l => (o.after.all fun e => !Region.binds md e || Nat.blt e.on k) && lexLater md ops k o l && lexF md ops (k + 1) l
theorem lexLater_spec {md : Region.Mode} {ops : Array Oper} {k : Nat} {o : Oper} : ∀ {l : List Oper}, lexLater md ops k o l = true → ∀ p ∈ l, (p.after.any (fun e => Region.binds md e && e.on == k) || o.apart ops p) = true
 | [], _, p, hp => by cases hp
 | q :: l, h, p, hp => by
  simp only [lexLater, Bool.and_eq_true] at h
  rcases List.mem_cons.1 hp with rfl | hp
  ·exact h.1
  ·exact lexLater_spec h.2 p hp
theorem lexF_head {md : Region.Mode} {ops : Array Oper} : ∀ (l : List Oper) (k : Nat) (listed : Array Bool), (∀ j, l[j]? = ops[k + j]?) → k + l.length = ops.size → listed.size = ops.size →
  (∀ j, j < ops.size → listed.getD j true = decide (j < k)) → lexF md ops k l = true → Region.lexHead md ops 0 l.length k listed = true
 | [], k, listed, hl, hk, hs, hL, h => by
  simp only [List.length_nil, Region.lexHead, Region.seqB]
  rw [List.isEmpty_iff]
  refine List.eq_nil_iff_forall_not_mem.2 fun j hj => ?_
  obtain ⟨h1, o, ho, _⟩ := mem_ready.1 hj
  have hlt : j < ops.size := (Array.getElem?_eq_some_iff.1 ho).1
  rw [hL j hlt] at h1
  simp only [List.length_nil] at hk
  simp only [decide_eq_false_iff_not] at h1
  omega
 | o :: l, k, listed, hl, hk, hs, hL, h => by
  simp only [List.length_cons] at hk
  have h0 : ops[k]? = some o := by simpa using (hl 0).symm
  simp only [lexF, Bool.and_eq_true] at h
  obtain ⟨⟨h1, h2⟩, h3⟩ := h
  simp only [List.length_cons, Region.lexHead, Bool.and_eq_true]
  refine ⟨⟨?_, ?_⟩, ?_⟩
  ·have : k ∈ Region.ready md ops listed := mem_ready.2 ⟨by rw [hL k (by omega)]; simp, o, h0, fun e he hb => by
    have h4 := Array.all_eq_true_iff_forall_mem.1 h1 e he
    simp only [hb, Bool.not_true, Bool.false_or] at h4
    have h5 : e.on < k := by simpa [Nat.blt_eq] using h4
    have h6 := hL e.on (by omega)
    rw [decide_eq_true h5] at h6
    have h7 : e.on < listed.size := by omega
    simpa [h7] using h6⟩
   simpa using this
  ·unfold Region.free
   rw [h0]
   simp only
   rw [List.all_eq_true]
   intro j hj
   rw [List.mem_range] at hj
   rcases Nat.lt_trichotomy j k with h4 | h4 | h4
   ·rw [hL j hj, decide_eq_true h4]; simp
   ·subst h4; simp
   ·obtain ⟨i, rfl⟩ : ∃ i, j = k + (i + 1) := ⟨j - k - 1, by omega⟩
    have h5 := hl (i + 1)
    simp only [List.getElem?_cons_succ] at h5
    cases h6 : ops[k + (i + 1)]? with
    | none => simp
    | some oj =>
     rw [h6] at h5
     have := lexLater_spec h2 oj (List.mem_of_getElem? h5)
     simp only [this, Bool.or_true]
  ·refine lexF_head l (k + 1) _ (fun j => by have := hl (j + 1); simpa [Nat.add_assoc, Nat.add_comm 1 j] using this) (by omega) (by simpa using hs) (fun j hj => ?_) h3
   by_cases hjk : k = j
   ·subst hjk
    have : k < listed.size := by omega
    simp [this]
   ·rw [getD_set_ne true hjk, hL j hj]
    rw [decide_eq_decide]; omega
def regF (n tl : Nat) (ops : Array Oper) (draw : Bool) : Bool :=
 (ops.all fun o => match o.dst with | some d => decide (d < n) | none => true) &&
 (!draw || (newDst (if tl = 0 then ops.toList else ops.toList.take (ops.size - tl)) && (if tl = 0 then Region.noSelect ops && lexF .any ops 0 ops.toList else decide (tl ≤ ops.size) && Region.lexTailB .any ops (ops.size - tl))))
theorem regF_ok {n tl : Nat} {ops : Array Oper} {draw : Bool} (h : regF n tl ops draw = true) : regOK n tl ops draw = true := by
 unfold regF at h
 unfold regOK
 simp only [Bool.and_eq_true, Bool.or_eq_true] at h ⊢
 refine ⟨h.1, h.2.imp id fun h2 => ⟨h2.1, ?_⟩⟩
 have h3 := h2.2
 by_cases ht : tl = 0
 ·rw [if_pos ht] at h3 ⊢
  simp only [Bool.and_eq_true] at h3 ⊢
  refine ⟨h3.1, ?_⟩
  have := lexF_head (md := .any) (ops := ops) ops.toList 0 (Array.replicate ops.size false) (fun j => by simp) (by simp) (by simp) (fun j hj => by simp [hj]) h3.2
  simpa using this
 ·rw [if_neg ht] at h3 ⊢; exact h3
def codeF (n : Nat) (tl : Nat → Nat) : Code → Bool
 | .region id ops draw => regF n (tl id) ops draw
 | .seq a b => codeF n tl a && codeF n tl b
 | .cond _ t e => codeF n tl t && codeF n tl e
 | .block _ c => codeF n tl c
 | .loop c => codeF n tl c
 | c => codeOK n tl c
theorem codeF_ok {n : Nat} {tl : Nat → Nat} (c : Code) : codeF n tl c = true → codeOK n tl c = true := by
 fun_induction codeF n tl c with
 | case1 id ops draw => exact regF_ok
 | case2 a b h1 h2 => simp only [codeOK, Bool.and_eq_true]; exact fun h => ⟨h1 h.1, h2 h.2⟩
 | case3 x t e h1 h2 => simp only [codeOK, Bool.and_eq_true]; exact fun h => ⟨h1 h.1, h2 h.2⟩
 | case4 i c h1 => simp only [codeOK]; exact h1
 | case5 c h1 => simp only [codeOK]; exact h1
 | case6 c => exact id
theorem ret_of_Wg {E : Env} {fid : FuncId} {fn : Func} {code : Code} (tl : Nat → Nat) {args : List PV} {r : PV} (l : List (Nat × PV)) (h1 : E.P.funcs[fid]? = some fn) (h2 : fn.body = some code) (h3 : (fn.name == "runtime.NumGoroutine") = false)
  (hok : codeF fn.ntmps tl code = true) (hargs : args.length ≤ fn.ntmps) (hl : ∀ p ∈ l, args.getD p.1 .undef = p.2) (h : W E fn.ntmps tl code (pfin E fn.results.toList r) ⟨fa l, fun _ => none, 0⟩) : Ret E.P fid args r :=
 ret_of_Wf tl l h1 h2 h3 (codeF_ok code hok) hargs hl h
end Pm
namespace Go.Proofs.YtdiladmkbpnhoaaGreat
open Go Pm
open ZX hiding N W
theorem hm_map (n d c : Int) : ∀ x : List Int, hm n d (x.map (· * c)) = ((hm n d x).1 * c, (hm n d x).2)
 | [] => by simp [hm]
 | a :: l => by
  have ih := hm_map n d c l
  simp only [List.map_cons, hm, ih]
  refine Prod.ext ?_ rfl
  show (hm n d l).1 * c * n + a * c * (hm n d l).2 = ((hm n d l).1 * n + a * (hm n d l).2) * c
  grind
theorem sgA_K {c : Int} (hc : c ≠ 0) (p : ZX) (n d : Int) : sgA (K c * p).l n d = sgA p.l n d * c.sign := by
 rw [K_l hc]
 show (hm n d _).1.sign = (hm n d p.l).1.sign * _
 rw [hm_map, Int.sign_mul]
theorem aftF_K {c : Int} (hc : c ≠ 0) (n d : Int) : ∀ (k : Nat) (p : ZX), aftF n d k (K c * p) = aftF n d k p * c.sign
 | 0, p => by rw [aftF, aftF, Int.zero_mul]
 | k + 1, p => by
  rw [aftF, aftF, sgA_K hc, der_Kmul, aftF_K hc n d k]
  by_cases h : sgA p.l n d = 0
  ·rw [h, Int.zero_mul, if_pos rfl, if_pos rfl]
  ·rw [if_neg h, if_neg]
   intro h0
   rcases Int.mul_eq_zero.1 h0 with h1 | h1
   ·exact h h1
   ·exact hc (Int.sign_eq_zero_iff_zero.1 h1)
theorem aft_K {c : Int} (hc : c ≠ 0) (n d : Int) (p : ZX) : aft n d (K c * p) = aft n d p * c.sign := by
 unfold aft
 rw [aftF_K hc, aftF_ge (k := ZX.N (K c * p)) (j := ZX.N p) (p := p) (by rw [N_Kmul hc]; exact Nat.le_refl _) (Nat.le_refl _)]
theorem aft_neg (n d : Int) {x y : List Int} (h : ∀ t, V t x = -V t y) : aft n d (of x) = -aft n d (of y) := by
 have e : of x = K (-1) * of y := ZX.ext fun t => by rw [v_of, v_mul, v_K, v_of, h]; omega
 rw [e, aft_K (by decide)]
 show _ * (-1 : Int) = _
 omega
theorem aft_same (n d : Int) {x y : List Int} (h : ∀ t, V t x = V t y) : aft n d (of x) = aft n d (of y) := by
 have e : of x = of y := ZX.ext fun t => by rw [v_of, v_of, h]
 rw [e]
theorem ev3 (t : Int) (a b c : CV) : V t (dcol 3 [rowI a, rowI b, rowI c]) = D3 (V t a.x) (V t a.y) (V t [a.d]) (V t b.x) (V t b.y) (V t [b.d]) (V t c.x) (V t c.y) (V t [c.d]) := by
 rw [V_dcol t 3 _ rfl, ← dC3]; rfl
theorem ev4 (t : Int) (a b c e : CV) : ∃ (f : CV → Int × Int × Int × Int), ∀ a b c e : CV, V t (dcol 4 [rowC a, rowC b, rowC c, rowC e]) = D4 (f a).1 (f a).2.1 (f a).2.2.1 (f a).2.2.2 (f b).1 (f b).2.1 (f b).2.2.1 (f b).2.2.2 (f c).1 (f c).2.1 (f c).2.2.1 (f c).2.2.2 (f e).1 (f e).2.1 (f e).2.2.1 (f e).2.2.2 :=
 ⟨fun v => (V t (pscale v.x v.d), V t (pscale v.y v.d), V t (padd (pmul v.x v.x) (pmul v.y v.y)), V t [v.d * v.d]), fun a b c e => by rw [V_dcol t 4 _ rfl, ← dC4]; rfl⟩
theorem o_swap (n d : Int) (a b c : CV) : aft n d (of (dcol 3 [rowI b, rowI a, rowI c])) = -aft n d (of (dcol 3 [rowI a, rowI b, rowI c])) := aft_neg n d fun t => by
 rw [ev3, ev3]; unfold D3; grind
theorem o_cyc (n d : Int) (a b c : CV) : aft n d (of (dcol 3 [rowI b, rowI c, rowI a])) = aft n d (of (dcol 3 [rowI a, rowI b, rowI c])) := aft_same n d fun t => by
 rw [ev3, ev3]; unfold D3; grind
theorem c_swap (n d : Int) (a b c e : CV) : aft n d (of (dcol 4 [rowC a, rowC b, rowC e, rowC c])) = -aft n d (of (dcol 4 [rowC a, rowC b, rowC c, rowC e])) := aft_neg n d fun t => by
 obtain ⟨f, hf⟩ := ev4 t a b c e
 rw [hf, hf]; unfold D4 D3; grind
theorem f_swap (n d : Int) (a b c e : CV) : aft n d (of (farD c e a b)) = -aft n d (of (farD a b c e)) := aft_neg n d fun t => by
 unfold farD; rw [V_psub, V_psub]; omega
def rD (a b : CV) : List Int := psub (pscale b.x a.d) (pscale a.x b.d)
theorem r_swap (n d : Int) (a b : CV) : aft n d (of (rD b a)) = -aft n d (of (rD a b)) := aft_neg n d fun t => by
 unfold rD; rw [V_psub, V_psub]; omega
theorem exq_mul {g v : Int} (hg : g ≠ 0) : exq (g * -3) (v * -3) = exq g v := by
 have h0 : g * -3 ≠ 0 := by omega
 unfold exq
 by_cases h : v % g = 0
 ·obtain ⟨w, rfl⟩ := Int.dvd_of_emod_eq_zero h
  rw [show g * w * -3 = g * -3 * w by grind, if_pos (Int.mul_emod_right _ _), if_pos h, Int.mul_ediv_cancel_left _ h0, Int.mul_ediv_cancel_left _ hg]
 ·rw [if_neg h, if_neg]
  intro h1
  obtain ⟨w, hw⟩ := Int.dvd_of_emod_eq_zero h1
  apply h
  have : v = g * w := Int.eq_of_mul_eq_mul_right (a := -3) (by decide) (by rw [hw]; grind)
  rw [this]; exact Int.mul_emod_right _ _
theorem div_mul {g v : Int} (hg : g ≠ 0) (h : g ∣ v) : v * -3 / (g * -3) = v / g := by
 obtain ⟨w, rfl⟩ := h
 rw [show g * w * -3 = g * -3 * w by grind, Int.mul_ediv_cancel_left _ (by omega), Int.mul_ediv_cancel_left _ hg]
theorem nC_mul (x y : List Int) (d : Int) : nC (x.map (· * -3)) (y.map (· * -3)) (dN d * -3) = nC x y d := by
 have h0 := dN_ne d
 have hD : dN (dN d * -3) = dN d * -3 := if_neg (by omega)
 have hcg : cg (x.map (· * -3)) (y.map (· * -3)) (dN d * -3) = cg x y d * -3 := by
  unfold cg
  rw [hD, show dN d * -3 :: (x.map (· * -3) ++ y.map (· * -3)) = (dN d :: (x ++ y)).map (· * -3) by simp, gcdL_scale, show (-3 : Int).natAbs = 3 from rfl]
  by_cases h : dN d < 0
  ·rw [if_neg (by omega), if_pos h]; omega
  ·rw [if_pos (by omega), if_neg h]; omega
 have hg := cg_ne x y d
 have hd := cg_dvd x y d (v := dN d) (List.mem_cons_self ..)
 unfold nC
 rw [hD, hcg, List.map_map, List.map_map, div_mul hg hd]
 have e : (exq (cg x y d * -3) ∘ fun v => v * -3) = exq (cg x y d) := funext fun v => exq_mul hg
 rw [e]
def m3 (c : RC) : RC := ⟨((c.x.map gv).map (· * -3)).map rw', ((c.y.map gv).map (· * -3)).map rw', decide (dN (iv c.s c.l) * -3 < 0), dig LL (dN (iv c.s c.l) * -3).natAbs⟩
theorem cfs_mul (x : RP) : cfs (((x.map gv).map (· * -3)).map rw') = (cfs x).map (· * -3) := by
 unfold cfs
 rw [map_gv_rw]
 exact Cn.ext (Cn.cut _) (Cn_map_mul (Cn.cut _) (by decide)) fun t => by rw [V_cutR, V_mapmul, V_mapmul, V_cutR]
theorem m3_nc (c : RC) : (m3 c).nc = c.nc := by
 show nC (cfs (((c.x.map gv).map (· * -3)).map rw')) (cfs (((c.y.map gv).map (· * -3)).map rw')) (iv (decide (dN (iv c.s c.l) * -3 < 0)) (dig LL (dN (iv c.s c.l) * -3).natAbs)) = _
 rw [iv_I, cfs_mul, cfs_mul, nC_mul]; rfl
theorem sz_m3 {v : Int} {s : Nat} (h : sz LL v ≤ s) : sz LL (v * -3) ≤ s + 1 := sz_mul hLL h (sz_le (k := 1) hLL (by decide))
theorem bd_m3 {x : List Int} {s n : Nat} (h : Bd LL s n x) : Bd LL (s + 1) n (x.map (· * -3)) := ⟨by simpa using h.len, fun v hv => by
 simp only [List.mem_map] at hv
 obtain ⟨w, hw, rfl⟩ := hv
 exact sz_m3 (h.sz w hw)⟩
theorem m3_ok {c : RC} (h : c.OK 1 3) : (m3 c).OK 2 3 := by
 have b1 := bd_m3 h.bx
 have b2 := bd_m3 h.by_
 have d1 : sz LL (dN (iv c.s c.l) * -3) ≤ 2 := sz_m3 (by
  unfold dN; split
  ·exact sz_one
  ·exact h.bd)
 refine ⟨(PB.of b1 (by decide) (by decide)).pok, (PB.of b2 (by decide) (by decide)).pok, Sz.lok (Nat.lt_of_le_of_lt d1 (by decide)), ?_, ?_, ?_, by decide, by decide, by decide⟩
 ·show Bd LL 2 3 (((((c.x.map gv).map (· * -3))).map rw').map gv)
  rw [map_gv_rw]; exact b1
 ·show Bd LL 2 3 (((((c.y.map gv).map (· * -3))).map rw').map gv)
  rw [map_gv_rw]; exact b2
 ·show sz LL (iv (decide (dN (iv c.s c.l) * -3 < 0)) (dig LL (dN (iv c.s c.l) * -3).natAbs)) ≤ 2
  rw [iv_I]; exact d1
theorem RC.OK.up {c : RC} (h : c.OK 1 3) : c.OK 2 3 := ⟨h.hx, h.hy, h.hl, h.bx.mono (by decide) (by decide), h.by_.mono (by decide) (by decide), Nat.le_trans h.bd (by decide), by decide, by decide, by decide⟩
theorem tS_ret {q : List Int} {s k : Nat} {n d : Int} (cq : Cn q) (b : Bd 2 s k q) (hk : k ≤ 31) (hs : s ≤ 1000000) (hn : sz 2 n ≤ 16) (hd : sz 2 d ≤ 16) (x : List Int) (C : List ZX) : Ret env.P 36 [Po q, .rd [PI x, sls zq C, sls i64e (dig DD n.natAbs), .bool (decide (n < 0)), sls i64e (dig DD d.natAbs), .bool (decide (d < 0)), sls i64e (dig DD n.natAbs), .bool (decide (n < 0)), sls i64e (dig DD d.natAbs), .bool (decide (d < 0))]] (.int .i64 (aft n d (of q))) := by
 have e : (of q).l = q := cq
 have f1 := qFromI_ret cq (bdL' b) (by omega) (by omega)
 have a1 := After_pt (x := x) (C := C) (n := n) (d := d) (p := of q) (s := s) (k := k) (by show Bd 2 s k (of q).l; rw [e]; exact b) hk hs hn hd
 rw [e] at a1
 unfold AP at a1
 generalize aft n d (of q) = r at *
 refine ret_of_Wf (E := env) (fun _ => 0) [(0, Po q), (1, .rd [PI x, sls zq C, sls i64e (dig DD n.natAbs), .bool (decide (n < 0)), sls i64e (dig DD d.natAbs), .bool (decide (d < 0)), sls i64e (dig DD n.natAbs), .bool (decide (n < 0)), sls i64e (dig DD d.natAbs), .bool (decide (d < 0))])] Tryz.func36 rfl (by kernel_rfl) (by kernel_rfl) (show 2 ≤ 8 by decide) (by simp) ?_
 refine W.sreg (fun K hK => ?_); simp (disch := omega) [gA, wA]; refine W.lv [0, 1] hK fun J j => ?_; clear hK K; simp; refine j _ ?_; clear j J
 refine W.sdrw (fun K hK => ?_)
 simp (disch := omega) [gA, wA]
 refine callR f1 ?_
 simp (disch := omega) [gA, wA]
 refine callR a1 ?_
 simp (disch := omega) [gA, wA]
 refine W.lv [3] hK fun J j => ?_; clear hK K; simp; refine j _ ?_; clear j J
 refine W.ret ?_
 simp [go]
theorem sml_bd' (n d : Int) : (sml n d).num.natAbs < 65536 ∧ ((sml n d).den : Int).natAbs < 65536 := by
 have h1 := Int.emod_nonneg n (show (61 : Int) ≠ 0 by decide)
 have h2 := Int.emod_lt_of_pos n (show (0 : Int) < 61 by decide)
 have h3 := Int.emod_nonneg d (show (6 : Int) ≠ 0 by decide)
 have h4 := Int.emod_lt_of_pos d (show (0 : Int) < 6 by decide)
 unfold sml
 rw [qmk_num _ _ (by omega), qmk_den _ _ (by omega)]
 rw [if_neg (by omega), if_neg (by omega)]
 refine ⟨Nat.lt_of_le_of_lt (Int.natAbs_ediv_le_natAbs _ _) (by omega), Nat.lt_of_le_of_lt (Int.natAbs_ediv_le_natAbs _ _) (by omega)⟩
end Go.Proofs.YtdiladmkbpnhoaaGreat
namespace Go.Proofs.YtdiladmkbpnhoaaGreat
open Go Pm
open ZX hiding N W
theorem tO_bd {a b c : CV} (ha : a.Sz 32 3) (hb : b.Sz 32 3) (hc : c.Sz 32 3) : Bd 2 118 10 (dcol 3 [rowI a, rowI b, rowI c]) := by
 rw [dcol_drow (k := 3) (M := [rowI a, rowI b, rowI c]) rfl (fun r hr => by
  simp only [List.mem_cons, List.not_mem_nil, or_false] at hr
  rcases hr with rfl | rfl | rfl <;> rfl) (by decide)]
 exact drow_bd (s := 32) (n := 3) 3 [rowI a, rowI b, rowI c] (rowI_EQ (by decide) (l := [a, b, c]) (fun v hv => by
  simp only [List.mem_cons, List.not_mem_nil, or_false] at hv
  rcases hv with rfl | rfl | rfl <;> assumption)) (by decide)
theorem rowC_bd3 {v : CV} {s k : Nat} (hk : 1 ≤ k) (h : v.Sz s k) : ∀ x ∈ rowC v, Bd 2 (2 * s + k + 1) (2 * k) x := fun x hx => by
 have x1 := h.x2; have y1 := h.y2; have d1 := h.d2
 simp only [rowC, List.mem_cons, List.not_mem_nil, or_false] at hx
 rcases hx with rfl | rfl | rfl | rfl
 ·exact (Bd.pscale (by decide) x1 d1).mono (by omega) (by omega)
 ·exact (Bd.pscale (by decide) y1 d1).mono (by omega) (by omega)
 ·have p1 : Bd 2 (2 * s + k) (2 * k) (pmul v.x v.x) := (Bd.pmul (by decide) x1 x1).mono (by omega) (by omega)
  have p2 : Bd 2 (2 * s + k) (2 * k) (pmul v.y v.y) := (Bd.pmul (by decide) y1 y1).mono (by omega) (by omega)
  exact Bd.padd (by decide) p1 p2
 ·exact (bd_one (sz_mul (b := 2) (by decide) d1 d1)).mono (by omega) (by omega)
theorem tC_bd {a b c e : CV} (ha : a.Sz 32 3) (hb : b.Sz 32 3) (hc : c.Sz 32 3) (he : e.Sz 32 3) : Bd 2 313 25 (dcol 4 [rowC a, rowC b, rowC c, rowC e]) := by
 rw [dcol_drow (k := 4) (M := [rowC a, rowC b, rowC c, rowC e]) rfl (fun r hr => by
  simp only [List.mem_cons, List.not_mem_nil, or_false] at hr
  rcases hr with rfl | rfl | rfl | rfl <;> rfl) (by decide)]
 exact drow_bd (s := 2 * 32 + 3 + 1) (n := 2 * 3) 4 [rowC a, rowC b, rowC c, rowC e] ⟨fun r hr x hx => by
  simp only [List.mem_cons, List.not_mem_nil, or_false] at hr
  rcases hr with rfl | rfl | rfl | rfl
  ·exact rowC_bd3 (by decide) ha x hx
  ·exact rowC_bd3 (by decide) hb x hx
  ·exact rowC_bd3 (by decide) hc x hx
  ·exact rowC_bd3 (by decide) he x hx⟩ (by decide)
theorem tR_bd {x y : List Int} {d e : Int} (hx : Bd 2 32 3 x) (hy : Bd 2 32 3 y) (hd : sz 2 d ≤ 32) (he : sz 2 e ≤ 32) : Bd 2 65 3 (psub (pscale x e) (pscale y d)) := by
 rw [← psub_eq]
 exact Bd.padd (by decide) (Bd.pscale (by decide) hx he) (Bd.pneg (Bd.pscale (by decide) hy hd))
theorem tA_bd {a b : CV} (ha : a.Sz 32 3) (hb : b.Sz 32 3) : Bd 2 134 6 (apt a b) := by
 have b1 := tR_bd hb.x2 ha.x2 hb.d2 ha.d2
 have b2 := tR_bd hb.y2 ha.y2 hb.d2 ha.d2
 have p1 : Bd 2 133 6 (pmul (apR a b) (apR a b)) := (Bd.pmul (by decide) b1 b1).mono (by decide) (by decide)
 have p2 : Bd 2 133 6 (pmul (apA a b) (apA a b)) := (Bd.pmul (by decide) b2 b2).mono (by decide) (by decide)
 exact Bd.padd (by decide) p1 p2
theorem tF_bd {a b c e : CV} (ha : a.Sz 32 3) (hb : b.Sz 32 3) (hc : c.Sz 32 3) (he : e.Sz 32 3) : Bd 2 263 6 (farD a b c e) := by
 have A1 := tA_bd hc he
 have A2 := tA_bd ha hb
 have e1 : sz 2 (a.d * b.d) ≤ 64 := sz_mul (b := 2) (by decide) ha.d2 hb.d2
 have e2 : sz 2 (c.d * e.d) ≤ 64 := sz_mul (b := 2) (by decide) hc.d2 he.d2
 have e3 : sz 2 ((a.d * b.d) * (a.d * b.d)) ≤ 128 := sz_mul (b := 2) (by decide) e1 e1
 have e4 : sz 2 ((c.d * e.d) * (c.d * e.d)) ≤ 128 := sz_mul (b := 2) (by decide) e2 e2
 unfold farD
 rw [← psub_eq]
 exact Bd.padd (by decide) (Bd.pscale (by decide) A1 e3) (Bd.pneg (Bd.pscale (by decide) A2 e4))
theorem aftF_rng (n d : Int) : ∀ (k : Nat) (p : ZX), -1 ≤ aftF n d k p ∧ aftF n d k p ≤ 1
 | 0, p => by rw [aftF]; omega
 | k + 1, p => by
  rw [aftF]
  split
  ·exact aftF_rng n d k _
  ·unfold sgA
   rcases Int.lt_trichotomy (hm n d p.l).1 0 with h | h | h
   ·rw [Int.sign_eq_neg_one_of_neg h]; omega
   ·rw [h]; decide
   ·rw [Int.sign_eq_one_of_pos h]; omega
theorem aft_rng (n d : Int) (p : ZX) : -1 ≤ aft n d p ∧ aft n d p ≤ 1 := aftF_rng n d _ p
theorem rFromC {c : RC} (h : c.Small 3 1) : Ret env.P 40 [IV c.s c.l] (RI (iv c.s c.l)) := rFrom_ret c.s c.l (Nat.le_trans h.ll (by decide)) h.l
end Go.Proofs.YtdiladmkbpnhoaaGreat
namespace Go.Proofs.YtdiladmkbpnhoaaGreat
open Go Pm
open ZX hiding N W
theorem Cn_far (a b c e : CV) : Cn (farD a b c e) := Cn.psub _ _
theorem Cn_rD (a b : CV) : Cn (rD a b) := Cn.psub _ _
theorem rD_bd {a b : CV} (ha : a.Sz 32 3) (hb : b.Sz 32 3) : Bd 2 65 3 (rD a b) := tR_bd hb.x2 ha.x2 hb.d2 ha.d2
theorem el_ret {x : RP} (h : Sm 3 1 x) (e : Bool × List Int) (he : e ∈ x) : Ret env.P 40 [IV e.1 e.2] (RI (gv e)) ∧ Ret env.P 39 [RI (gv e), RI (-3)] (RI (gv e * -3)) ∧ Ret env.P 38 [RI (gv e * -3)] (I (gv e * -3)) := by
 obtain ⟨h1, h2⟩ := h.ok e he
 have hz : sz 2 (gv e) ≤ 32 := by
  have g1 := sz2_V h1
  have g2 : sz 2 (gv e) = sz 2 (V 4294967296 e.2) := by unfold sz; rw [iv_natAbs e h1]
  omega
 exact ⟨rFrom_ret e.1 e.2 (Nat.le_trans h2 (by decide)) h1, rMul_ret (gv e) (-3) (Nat.lt_of_le_of_lt hz (by decide)) (by decide), rTo_ret (gv e * -3) (Nat.lt_of_le_of_lt (sz_mul (b := 2) (by decide) hz (show sz 2 (-3) ≤ 2 by decide)) (by decide))⟩
theorem m3_take {x : RP} {i : Nat} (h : i < x.length) : (((x.map gv).map (· * -3)).map rw').take (i + 1) = (((x.map gv).map (· * -3)).map rw').take i ++ [rw' (gv (nth x i) * -3)] := by
 rw [List.take_add_one, List.getElem?_map, List.getElem?_map, List.getElem?_map, List.getElem?_eq_getElem h, nth_eq h]; rfl
theorem m3_all {x : RP} : (((x.map gv).map (· * -3)).map rw').take x.length = ((x.map gv).map (· * -3)).map rw' := List.take_of_length_le (by simp)
@[simp] theorem fzV_fn' {rows : Pm.Rows} {id f : Nat} {l : List PV} : fzV rows id (.fn f l) = .fn f l := rfl
@[simp] theorem fz1_bool' {rows : Pm.Rows} {id : Nat} {b : Bool} : fz1 rows id (.bool b) = .bool b := rfl
@[simp] theorem fz1_nil' {rows : Pm.Rows} {id : Nat} : fz1 rows id .nil = .nil := rfl
@[simp] theorem fz1_sls' {α : Type} {g : α → List PV} {rows : Pm.Rows} {id : Nat} {l : List α} : fz1 rows id (sls g l) = sls g l := rfl
@[simp] theorem pz_rd' {rows : Pm.Rows} {l : List PV} : pz rows (.rd l) = .rd l := rfl
@[simp] theorem idsV_rd' {l : List PV} : idsV (.rd l) = [] := rfl
theorem W_rows' {E : Env} {n : Nat} {tl : Nat → Nat} {c : Code} {Q : PX → PS → Prop} {f : Nat → PV} {rows : Pm.Rows} {clk : Nat} (l : List Nat) (h : ∀ R : Pm.Rows, (∀ i ∈ l, R i = rows i) → W E n tl c Q ⟨f, R, clk⟩) : W E n tl c Q ⟨f, rows, clk⟩ := h rows fun _ _ => rfl
set_option maxHeartbeats 8000000 in
theorem PredTurned_ret (l : List PT) (n0 d0 : Int) (h : ∀ p ∈ l, p.In) (hl : l.length < 9223372036854775808) (hn0 : -9223372036854775808 ≤ n0 ∧ n0 < 9223372036854775808) (hd0 : -9223372036854775808 ≤ d0 ∧ d0 < 9223372036854775808) :
  Ret env.P 5 [sls ptc l, .int .i64 n0, .int .i64 d0] (.bool true) := by
 have F := four_ret l h hl
 have k0 := fourC_small h 0
 have k1 := fourC_small h 1
 have k2 := fourC_small h 2
 have k3 := fourC_small h 3
 generalize fourC l 0 = c0 at *
 generalize fourC l 1 = c1 at *
 generalize fourC l 2 = c2 at *
 generalize fourC l 3 = c3 at *
 have e0 := k0.ok.up; have e1 := k1.ok.up; have e2 := k2.ok.up; have e3 := k3.ok.up
 have em := m3_ok k0.ok
 have z0 := Sz31 k0; have z1 := Sz31 k1; have z2 := Sz31 k2; have z3 := Sz31 k3
 have sm := Small_ret n0 d0 hn0 hd0
 rw [RR_R2] at sm
 obtain ⟨b1, b2⟩ := sml_bd' n0 d0
 have b3 : ((sml n0 d0).den : Int) ≠ 0 := by have := (sml n0 d0).den_pos; omega
 generalize (sml n0 d0).num = N at *
 generalize ((sml n0 d0).den : Int) = D at *
 obtain ⟨CC, rt⟩ := Rational_ret b1 b2 b3
 have bn : sz 2 N ≤ 16 := sz_le (by decide) b1
 have bd : sz 2 D ≤ 16 := sz_le (by decide) b2
 have o1 := pOrient_ret e0 e1 e2 (by decide) (by decide) (by decide)
 have o2 := pOrient_ret e1 e0 e2 (by decide) (by decide) (by decide)
 have o3 := pOrient_ret e1 e2 e0 (by decide) (by decide) (by decide)
 have s1 := tS_ret (Cn_dcol 3 _) (tO_bd z0 z1 z2) (by decide) (by decide) bn bd [-N, D] CC
 have s2 := tS_ret (Cn_dcol 3 _) (tO_bd z1 z0 z2) (by decide) (by decide) bn bd [-N, D] CC
 have s3 := tS_ret (Cn_dcol 3 _) (tO_bd z1 z2 z0) (by decide) (by decide) bn bd [-N, D] CC
 rw [o_swap] at s2
 rw [o_cyc] at s3
 have i1 := pInCircle_ret e0 e1 e2 e3 (by decide) (by decide) (by decide)
 have i2 := pInCircle_ret e0 e1 e3 e2 (by decide) (by decide) (by decide)
 have u1 := tS_ret (Cn_dcol 4 _) (tC_bd z0 z1 z2 z3) (by decide) (by decide) bn bd [-N, D] CC
 have u2 := tS_ret (Cn_dcol 4 _) (tC_bd z0 z1 z3 z2) (by decide) (by decide) bn bd [-N, D] CC
 rw [c_swap] at u2
 have f1 := pFarther_ret e0 e1 e2 e3 (by decide) (by decide)
 have f2 := pFarther_ret e2 e3 e0 e1 (by decide) (by decide)
 have v1 := tS_ret (Cn_far _ _ _ _) (tF_bd z0 z1 z2 z3) (by decide) (by decide) bn bd [-N, D] CC
 have v2 := tS_ret (Cn_far _ _ _ _) (tF_bd z2 z3 z0 z1) (by decide) (by decide) bn bd [-N, D] CC
 rw [f_swap] at v2
 have r1 := pRight_ret e0 e1 (by decide)
 have r2 := pRight_ret e1 e0 (by decide)
 have t1 := tS_ret (Cn_rD _ _) (rD_bd z0 z1) (by decide) (by decide) bn bd [-N, D] CC
 have t2 := tS_ret (Cn_rD _ _) (rD_bd z1 z0) (by decide) (by decide) bn bd [-N, D] CC
 replace r1 : Ret env.P 33 _ (Po (rD c0.nc c1.nc)) := r1
 replace r2 : Ret env.P 33 _ (Po (rD c1.nc c0.nc)) := r2
 rw [r_swap] at t2
 have m1 := pEqual_ret e0 em
 rw [m3_nc, decide_eq_true (show c0.nc.x = c0.nc.x ∧ c0.nc.y = c0.nc.y ∧ c0.nc.d = c0.nc.d from ⟨rfl, rfl, rfl⟩)] at m1
 have m2 := pOrient_ret em e1 e2 (by decide) (by decide) (by decide)
 have m4 := pInCircle_ret em e1 e2 e3 (by decide) (by decide) (by decide)
 rw [m3_nc] at m2 m4
 have hw := wakes14_ret
 have hz := k0.bd2.2.2.2
 have th := rOf_ret (-3) (by decide) (by decide)
 have tt := rTo_ret (-3) (show sz 2 (-3) < 1099511627776 by decide)
 have hD1 := rFromC k0
 have hD2 := rMul_ret (iv c0.s c0.l) (-3) (Nat.lt_of_le_of_lt hz (by decide)) (by decide)
 have hD3 := rTo_ret (iv c0.s c0.l * -3) (Nat.lt_of_le_of_lt (sz_mul (b := 2) (by decide) hz (show sz 2 (-3) ≤ 2 by decide)) (by decide))
 have hD4 := rZero_ret (iv c0.s c0.l)
 have elx : ∀ e ∈ c0.x, Ret env.P 40 [IV e.1 e.2] (RI (gv e)) ∧ Ret env.P 39 [RI (gv e), RI (-3)] (RI (gv e * -3)) ∧ Ret env.P 38 [RI (gv e * -3)] (I (gv e * -3)) := fun e he => el_ret k0.x e he
 have ely : ∀ e ∈ c0.y, Ret env.P 40 [IV e.1 e.2] (RI (gv e)) ∧ Ret env.P 39 [RI (gv e), RI (-3)] (RI (gv e * -3)) ∧ Ret env.P 38 [RI (gv e * -3)] (I (gv e * -3)) := fun e he => el_ret k0.y e he
 have lx := k0.x.len
 have ly := k0.y.len
 have g1 := aft_rng N D (of (dcol 3 [rowI c0.nc, rowI c1.nc, rowI c2.nc]))
 have g2 := aft_rng N D (of (dcol 4 [rowC c0.nc, rowC c1.nc, rowC c2.nc, rowC c3.nc]))
 have g3 := aft_rng N D (of (farD c0.nc c1.nc c2.nc c3.nc))
 have g4 := aft_rng N D (of (rD c0.nc c1.nc))
 clear e0 e1 e2 e3 em z0 z1 z2 z3 b1 b2 b3 bn bd
 generalize aft N D (of (dcol 3 [rowI c0.nc, rowI c1.nc, rowI c2.nc])) = w1 at *
 generalize aft N D (of (dcol 4 [rowC c0.nc, rowC c1.nc, rowC c2.nc, rowC c3.nc])) = w2 at *
 generalize aft N D (of (farD c0.nc c1.nc c2.nc c3.nc)) = w3 at *
 generalize aft N D (of (rD c0.nc c1.nc)) = w4 at *
 generalize dcol 3 [rowI c0.nc, rowI c1.nc, rowI c2.nc] = P1 at *
 generalize dcol 3 [rowI c1.nc, rowI c0.nc, rowI c2.nc] = P2 at *
 generalize dcol 3 [rowI c1.nc, rowI c2.nc, rowI c0.nc] = P3 at *
 generalize dcol 4 [rowC c0.nc, rowC c1.nc, rowC c2.nc, rowC c3.nc] = P4 at *
 generalize dcol 4 [rowC c0.nc, rowC c1.nc, rowC c3.nc, rowC c2.nc] = P5 at *
 generalize hP6 : farD c0.nc c1.nc c2.nc c3.nc = P6 at *
 generalize hP7 : farD c2.nc c3.nc c0.nc c1.nc = P7 at *
 clear hP6 hP7
 generalize rD c0.nc c1.nc = P8 at *
 generalize rD c1.nc c0.nc = P9 at *
 unfold AP at rt
 generalize c0.nc = q0 at *
 generalize c1.nc = q1 at *
 generalize c2.nc = q2 at *
 generalize c3.nc = q3 at *
 simp only [RC.cells_def, CV.doc_def, List.cons_append, List.nil_append] at *
 refine ret_of_Wg (E := env) (fun _ => 0) [(0, sls ptc l), (1, .int .i64 n0), (2, .int .i64 d0)] Tryz.func5 rfl (by kernel_rfl) (by kernel_rfl) (show 3 ≤ 250 by decide) (by simp) ?_
 refine W.sreg (fun K hK => ?_); simp (disch := omega) [gA, wA]; refine W.lv [0, 1, 2, 135] hK fun J j => ?_; clear hK K; simp; refine j _ ?_; clear j J
 refine W.sreg (fun K hK => ?_)
 simp (maxSteps := 4000000) (disch := omega) [gA, wA]
 refine callR F ?_
 simp (maxSteps := 4000000) (disch := omega) [gA, wA]
 refine W.lv [1, 2, 7, 135] hK fun J j => ?_; clear hK K; simp; refine j _ ?_; clear j J
 refine W_rows' [7] fun R hR => ?_
 have r7 := hR 7 (by simp)
 simp at r7
 clear hR
 refine W.sreg (fun K hK => ?_)
 simp (disch := omega) [gA, wA]
 refine callR sm ?_
 simp (disch := omega) [gA, wA]
 refine callR rt ?_
 simp (disch := omega) [gA, wA]
 refine W.lv [7, 9, 135] hK fun J j => ?_; clear hK K; simp; refine j _ ?_; clear j J
 refine W.sreg (fun K hK => ?_); simp (disch := omega) [gA, wA]; refine W.lv [7, 10, 135] hK fun J j => ?_; clear hK K; simp; refine j _ ?_; clear j J
 refine W.seq ?_
 refine W_rows' [7] fun S hS => ?_
 have s7 := hS 7 (by simp)
 simp [r7] at s7
 clear hS r7
 refine W.sdrw (fun K hK => ?_)
 simp (maxSteps := 4000000) (disch := omega) [gA, wA, s7]
 refine callR o1 ?_
 simp (maxSteps := 4000000) (disch := omega) [gA, wA, s7]
 refine callR s1 ?_
 simp (maxSteps := 4000000) (disch := omega) [gA, wA, s7]
 refine callR o2 ?_
 simp (maxSteps := 4000000) (disch := omega) [gA, wA, s7]
 refine callR s2 ?_
 simp (maxSteps := 4000000) (disch := omega) [gA, wA, s7]
 refine callR o1 ?_
 simp (maxSteps := 4000000) (disch := omega) [gA, wA, s7]
 refine callR s1 ?_
 simp (maxSteps := 4000000) (disch := omega) [gA, wA, s7]
 refine callR o3 ?_
 simp (maxSteps := 4000000) (disch := omega) [gA, wA, s7]
 refine callR s3 ?_
 simp (maxSteps := 4000000) (disch := omega) [gA, wA, s7]
 refine callR i1 ?_
 simp (maxSteps := 4000000) (disch := omega) [gA, wA, s7]
 refine callR u1 ?_
 simp (maxSteps := 4000000) (disch := omega) [gA, wA, s7]
 refine callR i2 ?_
 simp (maxSteps := 4000000) (disch := omega) [gA, wA, s7]
 refine callR u2 ?_
 simp (maxSteps := 4000000) (disch := omega) [gA, wA, s7]
 refine callR f1 ?_
 simp (maxSteps := 4000000) (disch := omega) [gA, wA, s7]
 refine callR v1 ?_
 simp (maxSteps := 4000000) (disch := omega) [gA, wA, s7]
 refine callR f2 ?_
 simp (maxSteps := 4000000) (disch := omega) [gA, wA, s7]
 refine callR v2 ?_
 simp (maxSteps := 4000000) (disch := omega) [gA, wA, s7]
 refine callR r1 ?_
 simp (maxSteps := 4000000) (disch := omega) [gA, wA, s7]
 refine callR t1 ?_
 simp (maxSteps := 4000000) (disch := omega) [gA, wA, s7]
 refine callR r2 ?_
 simp (maxSteps := 4000000) (disch := omega) [gA, wA, s7]
 refine callR t2 ?_
 simp (maxSteps := 4000000) (disch := omega) [gA, wA, s7]
 refine W.lv [7, 10, 135] hK fun J j => ?_; clear hK K; simp; refine j _ ?_; clear j J
 clear o2 s2 o3 s3 i2 u2 f1 v1 f2 v2 r1 t1 r2 t2 sm rt F
 refine W.cond ⟨_, rfl, fun h => ?_, fun h => ?_⟩
 ·simp at h
 ·clear h
  refine W.skip ?_
  refine W.sreg (fun K hK => ?_)
  simp (disch := omega) [gA, wA]
  refine callR th ?_
  simp (disch := omega) [gA, wA]
  refine W.lv [7, 10, 11] hK fun J j => ?_; clear hK K; simp; refine j _ ?_; clear j J
  refine W_rows' [7, 11] fun R hR => ?_
  have r7 := hR 7 (by simp)
  have r11 := hR 11 (by simp)
  simp [s7] at r7 r11
  clear hR s7
  refine W.sdrw (fun K hK => ?_)
  simp (disch := omega) [gA, wA, r7, r11]
  refine callR hD1 ?_
  simp (disch := omega) [gA, wA, r7, r11]
  refine callR hD2 ?_
  simp (disch := omega) [gA, wA, r7, r11]
  refine callR hD3 ?_
  simp (disch := omega) [gA, wA, r7, r11]
  (try (refine stepTxt (of_decide_eq_true (by kernel_rfl)) ?_)); (try simp (maxSteps := 4000000) (disch := omega) [gA, wA, r7, r11]); (repeat rw [if_pos (by kernel_rfl)]); (try simp (maxSteps := 4000000) (disch := omega) [gA, wA, r7, r11])
  refine W.lv [7, 10, 11, 12] hK fun J j => ?_; clear hK K; simp; refine j _ ?_; clear j J
  obtain ⟨bs, hbs⟩ : ∃ bs, bs = decide (dN (iv c0.s c0.l) * -3 < 0) := ⟨_, rfl⟩
  obtain ⟨ls, hls⟩ : ∃ ls, ls = dig LL (dN (iv c0.s c0.l) * -3).natAbs := ⟨_, rfl⟩
  refine W.seqJ (fun σ => ∃ (v12 e12 : Nat) (rows : Pm.Rows) (clk : Nat), σ = ⟨fa [(7, .ptr 7 0 0 0), (10, .fn 36 [.rd [PI [-N, D], sls zq CC, sls i64e (dig DD N.natAbs), .bool (decide (N < 0)), sls i64e (dig DD D.natAbs), .bool (decide (D < 0)), sls i64e (dig DD N.natAbs), .bool (decide (N < 0)), sls i64e (dig DD D.natAbs), .bool (decide (D < 0))]]), (11, .ptr 11 3 0 0), (12, .ptr 12 v12 0 0)], rows, clk⟩ ∧
   rows 7 = R 7 ∧ rows 11 = R 11 ∧ rows 12 = some ⟨v12, e12, 4, [[.nil, .nil, .bool bs, sls u32 ls]]⟩) ?_ ?_
  ·refine W.sreg (fun K hK => ?_)
   simp (disch := omega) [gA, wA, r7]
   refine callR hD1 ?_
   simp (disch := omega) [gA, wA]
   refine callR hD4 ?_
   simp (disch := omega) [gA, wA]
   refine W.lv [7, 10, 11, 12, 149] hK fun J j => ?_; clear hK K; simp; refine j _ ?_; clear j J
   refine W.condB (iv c0.s c0.l = 0) rfl (fun h => ?_) (fun h => ?_)
   ·have hd : dN (iv c0.s c0.l) * -3 = -3 := by rw [h]; rfl
    rw [hd] at hbs hls
    refine W.reg (fun K hK => ?_)
    simp (disch := omega) [gA, wA, r11]
    refine callR tt ?_
    simp (disch := omega) [gA, wA, r11]
    exact hK _ ⟨_, Gh_fa _ [7, 10, 11, 12], _, _, _, _, rfl, by simp, by simp, by simp [hbs, hls]; first | exact ⟨rfl, rfl⟩ | rfl⟩
   ·have hd : dN (iv c0.s c0.l) = iv c0.s c0.l := if_neg h
    rw [hd] at hbs hls
    refine W.skip ?_
    exact ⟨_, Gh_fa _ [7, 10, 11, 12], _, _, _, _, rfl, by simp, by simp, by simp [hbs, hls]; first | exact ⟨rfl, rfl⟩ | rfl⟩
  rintro _ ⟨v12, e12, rows, clk, rfl, hr7, hr11, hr12⟩
  obtain ⟨XL, hXL⟩ : ∃ XL, XL = ((c0.x.map gv).map (· * -3)).map rw' := ⟨_, rfl⟩
  have xt : ∀ i, i < c0.x.length → XL.take (i + 1) = XL.take i ++ [rw' (gv (nth c0.x i) * -3)] := fun i hi => by rw [hXL]; exact m3_take hi
  have xa : XL.take c0.x.length = XL := by rw [hXL]; exact m3_all
  have xl : XL.length = c0.x.length := by rw [hXL]; simp
  refine W.seqJ (fun σ => ∃ (v12 e12 : Nat) (rows : Pm.Rows) (clk : Nat), σ = ⟨fa [(7, .ptr 7 0 0 0), (10, .fn 36 [.rd [PI [-N, D], sls zq CC, sls i64e (dig DD N.natAbs), .bool (decide (N < 0)), sls i64e (dig DD D.natAbs), .bool (decide (D < 0)), sls i64e (dig DD N.natAbs), .bool (decide (N < 0)), sls i64e (dig DD D.natAbs), .bool (decide (D < 0))]]), (11, .ptr 11 3 0 0), (12, .ptr 12 v12 0 0)], rows, clk⟩ ∧
   rows 7 = R 7 ∧ rows 11 = R 11 ∧ rows 12 = some ⟨v12, e12, 4, [[Pg XL, .nil, .bool bs, sls u32 ls]]⟩) ?_ ?_
  ·rw [r7] at hr7
   refine W.sreg (fun K hK => ?_)
   simp (disch := omega) [gA, wA, hr7]
   refine W.lv [7, 10, 11, 12, 156, 157] hK fun J j => ?_; clear hK K; simp; refine j _ ?_; clear j J
   refine W.block ?_
   refine W.loopG (fun k σ => ∃ (i ver : Nat) (cell : PV) (rows : Pm.Rows) (clk : Nat), σ = ⟨fa [(7, .ptr 7 0 0 0), (10, .fn 36 [.rd [PI [-N, D], sls zq CC, sls i64e (dig DD N.natAbs), .bool (decide (N < 0)), sls i64e (dig DD D.natAbs), .bool (decide (D < 0)), sls i64e (dig DD N.natAbs), .bool (decide (N < 0)), sls i64e (dig DD D.natAbs), .bool (decide (D < 0))]]), (11, .ptr 11 3 0 0), (12, .ptr 12 v12 0 0), (156, .int .i64 c0.x.length), (157, .int .i64 i)], rows, clk⟩ ∧ rows 7 = R 7 ∧ rows 11 = R 11 ∧ rows 12 = some ⟨v12, e12, 4, [[cell, .nil, .bool bs, sls u32 ls]]⟩ ∧
    ((i = 0 ∧ cell = .nil) ∨ (0 < i ∧ cell = .own 173 ver 0 i ∧ rows 173 = some ⟨ver, 27, 2, emap ge (XL.take i)⟩)) ∧ i + k = c0.x.length) c0.x.length ?_ ?_
   ·exact ⟨_, .refl, 0, 0, _, _, _, rfl, by rw [r7, hr7], hr11, hr12, .inl ⟨rfl, rfl⟩, by omega⟩
   clear hr7 hr11 hr12 rows clk
   rintro k _ ⟨i, ver, cell, rows, clk, rfl, hr7, hr11, hr12, hcell, hik⟩
   rw [r7] at hr7
   rw [r11] at hr11
   refine W.sreg (fun K hK => ?_); simp (disch := omega) [gA, wA]; refine W.lv [7, 10, 11, 12, 156, 157, 158] hK fun J j => ?_; clear hK K; simp; refine j _ ?_; clear j J
   refine W.seq ?_
   refine W.cond ⟨_, rfl, fun h => ?_, fun h => ?_⟩
   ·have hi : i < c0.x.length := by simp at h; omega
    obtain ⟨f1, f2, f3⟩ := elx _ (nth_mem hi)
    have htk := xt i hi
    refine W.skip ?_
    refine W.seq ?_
    refine W.block ?_
    refine W.sreg (fun K hK => ?_); simp (disch := omega) [gA, wA]; refine W.lv [7, 10, 11, 12, 13, 156, 157] hK fun J j => ?_; clear hK K; simp; refine j _ ?_; clear j J
    rcases hcell with ⟨rfl, rfl⟩ | ⟨h0, rfl, hr173⟩
    ·refine W.drw (fun K hK => ?_)
     simp (disch := omega) [gA, wA, hr7, hr11, hr12, hi]
     refine callR f1 ?_
     simp (disch := omega) [gA, wA, hr7, hr11, hr12, hi]
     refine callR f2 ?_
     simp (disch := omega) [gA, wA, hr7, hr11, hr12, hi]
     refine callR f3 ?_
     simp (disch := omega) [gA, wA, hr7, hr11, hr12, hi]
     (try (refine stepTxt (of_decide_eq_true (by kernel_rfl)) ?_)); (try simp (maxSteps := 4000000) (disch := omega) [gA, wA, hr7, hr11, hr12, hi]); (repeat rw [if_pos (by kernel_rfl)]); (try simp (maxSteps := 4000000) (disch := omega) [gA, wA, hr7, hr11, hr12, hi])
     (try (refine stepTxt (of_decide_eq_true (by kernel_rfl)) ?_)); (try simp (maxSteps := 4000000) (disch := omega) [gA, wA, hr7, hr11, hr12, hi]); (repeat rw [if_pos (by kernel_rfl)]); (try simp (maxSteps := 4000000) (disch := omega) [gA, wA, hr7, hr11, hr12, hi])
     (try (refine stepTxt (of_decide_eq_true (by kernel_rfl)) ?_)); (try simp (maxSteps := 4000000) (disch := omega) [gA, wA, hr7, hr11, hr12, hi]); (repeat rw [if_pos (by kernel_rfl)]); (try simp (maxSteps := 4000000) (disch := omega) [gA, wA, hr7, hr11, hr12, hi])
     refine W.lv [7, 10, 11, 12, 156, 157] hK fun J j => ?_; clear hK K; simp; refine j _ ?_; clear j J
     refine W.reg (fun K hK => ?_); simp (disch := omega) [gA, wA]
     refine hK _ ⟨k - 1, _, Gh_fa _ [7, 10, 11, 12, 156, 157], by omega, 1, _, _, _, _, rfl, by simp [hr7, r7], by simp [hr11, r11], by simp; exact rfl, .inr ⟨by decide, rfl, by simp [htk, rw']; try exact rfl⟩, by omega⟩
    ·have hle : (emap ge (XL.take i)).length = i := by simp [emap, xl]; omega
     refine W.drw (fun K hK => ?_)
     simp (disch := omega) [gA, wA, hr7, hr11, hr12, hi, hr173, hle]
     refine callR f1 ?_
     simp (disch := omega) [gA, wA, hr7, hr11, hr12, hi, hr173, hle]
     refine callR f2 ?_
     simp (disch := omega) [gA, wA, hr7, hr11, hr12, hi, hr173, hle]
     refine callR f3 ?_
     simp (disch := omega) [gA, wA, hr7, hr11, hr12, hi, hr173, hle]
     (try (refine stepTxt (of_decide_eq_true (by kernel_rfl)) ?_)); (try simp (maxSteps := 4000000) (disch := omega) [gA, wA, hr7, hr11, hr12, hi, hr173, hle]); (repeat rw [if_pos (by kernel_rfl)]); (try simp (maxSteps := 4000000) (disch := omega) [gA, wA, hr7, hr11, hr12, hi, hr173, hle])
     (try (refine stepTxt (of_decide_eq_true (by kernel_rfl)) ?_)); (try simp (maxSteps := 4000000) (disch := omega) [gA, wA, hr7, hr11, hr12, hi, hr173, hle]); (repeat rw [if_pos (by kernel_rfl)]); (try simp (maxSteps := 4000000) (disch := omega) [gA, wA, hr7, hr11, hr12, hi, hr173, hle])
     (try (refine stepTxt (of_decide_eq_true (by kernel_rfl)) ?_)); (try simp (maxSteps := 4000000) (disch := omega) [gA, wA, hr7, hr11, hr12, hi, hr173, hle]); (repeat rw [if_pos (by kernel_rfl)]); (try simp (maxSteps := 4000000) (disch := omega) [gA, wA, hr7, hr11, hr12, hi, hr173, hle])
     refine W.lv [7, 10, 11, 12, 156, 157] hK fun J j => ?_; clear hK K; simp; refine j _ ?_; clear j J
     refine W.reg (fun K hK => ?_); simp (disch := omega) [gA, wA]
     refine hK _ ⟨k - 1, _, Gh_fa _ [7, 10, 11, 12, 156, 157], by omega, i + 1, _, _, _, _, rfl, by simp [hr7, r7], by simp [hr11, r11], by simp; exact rfl, .inr ⟨by omega, rfl, by simp [htk, rw']; try exact rfl⟩, by omega⟩
   ·have hi : i = c0.x.length := by simp at h; omega
    rcases hcell with ⟨hi0, rfl⟩ | ⟨h0, rfl, hr173⟩
    ·have hX0 : XL = [] := List.eq_nil_of_length_eq_zero (by omega)
     refine W.row (id := 12) [[Pg XL, .nil, .bool bs, sls u32 ls]] hr12 ⟨⟨.inr ⟨rfl, by rw [hX0]; rfl⟩, .inl rfl, .inl rfl, .inl rfl, trivial⟩, trivial⟩ ?_
     refine W.exit ?_; simp only [pX, if_true, if_false, reduceIte, Nat.reduceEqDiff]
     exact ⟨_, Gh_fa _ [7, 10, 11, 12], _, _, _, _, rfl, by simp [hr7, r7], by simp [hr11, r11], by simp; first | exact rfl | exact ⟨rfl, rfl⟩⟩
    ·rw [hi, xa] at hr173
     refine W.freezeC 173 (by rw [hr173]; simp) (fun K hK => ?_)
     simp [hr173]
     refine hK _ ?_
     have hr12' : frC2 rows 173 12 = some ⟨v12, e12, 4, [[Pg XL, .nil, .bool bs, sls u32 ls]]⟩ := by
      simp [hr12, hr173, hi, ← xl]
     have hr7' : frC2 rows 173 7 = R 7 := by simp [hr7, r7]
     have hr11' : frC2 rows 173 11 = R 11 := by simp [hr11, r11]
     refine W.exit ?_; simp only [pX, if_true, if_false, reduceIte, Nat.reduceEqDiff]
     exact ⟨_, Gh_fa _ [7, 10, 11, 12], _, _, _, _, rfl, hr7', hr11', hr12'⟩
  rintro _ ⟨v12, e12, rows, clk, rfl, hr7, hr11, hr12⟩
  obtain ⟨YL, hYL⟩ : ∃ YL, YL = ((c0.y.map gv).map (· * -3)).map rw' := ⟨_, rfl⟩
  have yt : ∀ i, i < c0.y.length → YL.take (i + 1) = YL.take i ++ [rw' (gv (nth c0.y i) * -3)] := fun i hi => by rw [hYL]; exact m3_take hi
  have ya : YL.take c0.y.length = YL := by rw [hYL]; exact m3_all
  have yl : YL.length = c0.y.length := by rw [hYL]; simp
  refine W.seqJ (fun σ => ∃ (v12 e12 : Nat) (rows : Pm.Rows) (clk : Nat), σ = ⟨fa [(7, .ptr 7 0 0 0), (10, .fn 36 [.rd [PI [-N, D], sls zq CC, sls i64e (dig DD N.natAbs), .bool (decide (N < 0)), sls i64e (dig DD D.natAbs), .bool (decide (D < 0)), sls i64e (dig DD N.natAbs), .bool (decide (N < 0)), sls i64e (dig DD D.natAbs), .bool (decide (D < 0))]]), (11, .ptr 11 3 0 0), (12, .ptr 12 v12 0 0)], rows, clk⟩ ∧
   rows 7 = R 7 ∧ rows 11 = R 11 ∧ rows 12 = some ⟨v12, e12, 4, [[Pg XL, Pg YL, .bool bs, sls u32 ls]]⟩) ?_ ?_
  ·rw [r7] at hr7
   refine W.sreg (fun K hK => ?_)
   simp (disch := omega) [gA, wA, hr7]
   refine W.lv [7, 10, 11, 12, 179, 180] hK fun J j => ?_; clear hK K; simp; refine j _ ?_; clear j J
   refine W.block ?_
   refine W.loopG (fun k σ => ∃ (i ver : Nat) (cell : PV) (rows : Pm.Rows) (clk : Nat), σ = ⟨fa [(7, .ptr 7 0 0 0), (10, .fn 36 [.rd [PI [-N, D], sls zq CC, sls i64e (dig DD N.natAbs), .bool (decide (N < 0)), sls i64e (dig DD D.natAbs), .bool (decide (D < 0)), sls i64e (dig DD N.natAbs), .bool (decide (N < 0)), sls i64e (dig DD D.natAbs), .bool (decide (D < 0))]]), (11, .ptr 11 3 0 0), (12, .ptr 12 v12 0 0), (179, .int .i64 c0.y.length), (180, .int .i64 i)], rows, clk⟩ ∧ rows 7 = R 7 ∧ rows 11 = R 11 ∧ rows 12 = some ⟨v12, e12, 4, [[Pg XL, cell, .bool bs, sls u32 ls]]⟩ ∧
    ((i = 0 ∧ cell = .nil) ∨ (0 < i ∧ cell = .own 196 ver 0 i ∧ rows 196 = some ⟨ver, 27, 2, emap ge (YL.take i)⟩)) ∧ i + k = c0.y.length) c0.y.length ?_ ?_
   ·exact ⟨_, .refl, 0, 0, _, _, _, rfl, by rw [r7, hr7], hr11, hr12, .inl ⟨rfl, rfl⟩, by omega⟩
   clear hr7 hr11 hr12 rows clk
   rintro k _ ⟨i, ver, cell, rows, clk, rfl, hr7, hr11, hr12, hcell, hik⟩
   rw [r7] at hr7
   rw [r11] at hr11
   refine W.sreg (fun K hK => ?_); simp (disch := omega) [gA, wA]; refine W.lv [7, 10, 11, 12, 179, 180, 181] hK fun J j => ?_; clear hK K; simp; refine j _ ?_; clear j J
   refine W.seq ?_
   refine W.cond ⟨_, rfl, fun h => ?_, fun h => ?_⟩
   ·have hi : i < c0.y.length := by simp at h; omega
    obtain ⟨f1, f2, f3⟩ := ely _ (nth_mem hi)
    have htk := yt i hi
    refine W.skip ?_
    refine W.seq ?_
    refine W.block ?_
    refine W.sreg (fun K hK => ?_); simp (disch := omega) [gA, wA]; refine W.lv [7, 10, 11, 12, 14, 179, 180] hK fun J j => ?_; clear hK K; simp; refine j _ ?_; clear j J
    rcases hcell with ⟨rfl, rfl⟩ | ⟨h0, rfl, hr196⟩
    ·refine W.drw (fun K hK => ?_)
     simp (disch := omega) [gA, wA, hr7, hr11, hr12, hi]
     refine callR f1 ?_
     simp (disch := omega) [gA, wA, hr7, hr11, hr12, hi]
     refine callR f2 ?_
     simp (disch := omega) [gA, wA, hr7, hr11, hr12, hi]
     refine callR f3 ?_
     simp (disch := omega) [gA, wA, hr7, hr11, hr12, hi]
     (try (refine stepTxt (of_decide_eq_true (by kernel_rfl)) ?_)); (try simp (maxSteps := 4000000) (disch := omega) [gA, wA, hr7, hr11, hr12, hi]); (repeat rw [if_pos (by kernel_rfl)]); (try simp (maxSteps := 4000000) (disch := omega) [gA, wA, hr7, hr11, hr12, hi])
     (try (refine stepTxt (of_decide_eq_true (by kernel_rfl)) ?_)); (try simp (maxSteps := 4000000) (disch := omega) [gA, wA, hr7, hr11, hr12, hi]); (repeat rw [if_pos (by kernel_rfl)]); (try simp (maxSteps := 4000000) (disch := omega) [gA, wA, hr7, hr11, hr12, hi])
     (try (refine stepTxt (of_decide_eq_true (by kernel_rfl)) ?_)); (try simp (maxSteps := 4000000) (disch := omega) [gA, wA, hr7, hr11, hr12, hi]); (repeat rw [if_pos (by kernel_rfl)]); (try simp (maxSteps := 4000000) (disch := omega) [gA, wA, hr7, hr11, hr12, hi])
     refine W.lv [7, 10, 11, 12, 179, 180] hK fun J j => ?_; clear hK K; simp; refine j _ ?_; clear j J
     refine W.reg (fun K hK => ?_); simp (disch := omega) [gA, wA]
     refine hK _ ⟨k - 1, _, Gh_fa _ [7, 10, 11, 12, 179, 180], by omega, 1, _, _, _, _, rfl, by simp [hr7, r7], by simp [hr11, r11], by simp; exact rfl, .inr ⟨by decide, rfl, by simp [htk, rw']; try exact rfl⟩, by omega⟩
    ·have hle : (emap ge (YL.take i)).length = i := by simp [emap, yl]; omega
     refine W.drw (fun K hK => ?_)
     simp (disch := omega) [gA, wA, hr7, hr11, hr12, hi, hr196, hle]
     refine callR f1 ?_
     simp (disch := omega) [gA, wA, hr7, hr11, hr12, hi, hr196, hle]
     refine callR f2 ?_
     simp (disch := omega) [gA, wA, hr7, hr11, hr12, hi, hr196, hle]
     refine callR f3 ?_
     simp (disch := omega) [gA, wA, hr7, hr11, hr12, hi, hr196, hle]
     (try (refine stepTxt (of_decide_eq_true (by kernel_rfl)) ?_)); (try simp (maxSteps := 4000000) (disch := omega) [gA, wA, hr7, hr11, hr12, hi, hr196, hle]); (repeat rw [if_pos (by kernel_rfl)]); (try simp (maxSteps := 4000000) (disch := omega) [gA, wA, hr7, hr11, hr12, hi, hr196, hle])
     (try (refine stepTxt (of_decide_eq_true (by kernel_rfl)) ?_)); (try simp (maxSteps := 4000000) (disch := omega) [gA, wA, hr7, hr11, hr12, hi, hr196, hle]); (repeat rw [if_pos (by kernel_rfl)]); (try simp (maxSteps := 4000000) (disch := omega) [gA, wA, hr7, hr11, hr12, hi, hr196, hle])
     (try (refine stepTxt (of_decide_eq_true (by kernel_rfl)) ?_)); (try simp (maxSteps := 4000000) (disch := omega) [gA, wA, hr7, hr11, hr12, hi, hr196, hle]); (repeat rw [if_pos (by kernel_rfl)]); (try simp (maxSteps := 4000000) (disch := omega) [gA, wA, hr7, hr11, hr12, hi, hr196, hle])
     refine W.lv [7, 10, 11, 12, 179, 180] hK fun J j => ?_; clear hK K; simp; refine j _ ?_; clear j J
     refine W.reg (fun K hK => ?_); simp (disch := omega) [gA, wA]
     refine hK _ ⟨k - 1, _, Gh_fa _ [7, 10, 11, 12, 179, 180], by omega, i + 1, _, _, _, _, rfl, by simp [hr7, r7], by simp [hr11, r11], by simp; exact rfl, .inr ⟨by omega, rfl, by simp [htk, rw']; try exact rfl⟩, by omega⟩
   ·have hi : i = c0.y.length := by simp at h; omega
    rcases hcell with ⟨hi0, rfl⟩ | ⟨h0, rfl, hr196⟩
    ·have hX0 : YL = [] := List.eq_nil_of_length_eq_zero (by omega)
     refine W.row (id := 12) [[Pg XL, Pg YL, .bool bs, sls u32 ls]] hr12 ⟨⟨.inl rfl, .inr ⟨rfl, by rw [hX0]; rfl⟩, .inl rfl, .inl rfl, trivial⟩, trivial⟩ ?_
     refine W.exit ?_; simp only [pX, if_true, if_false, reduceIte, Nat.reduceEqDiff]
     exact ⟨_, Gh_fa _ [7, 10, 11, 12], _, _, _, _, rfl, by simp [hr7, r7], by simp [hr11, r11], by simp; first | exact rfl | exact ⟨rfl, rfl⟩⟩
    ·rw [hi, ya] at hr196
     refine W.freezeC 196 (by rw [hr196]; simp) (fun K hK => ?_)
     simp [hr196]
     refine hK _ ?_
     have hr12' : frC2 rows 196 12 = some ⟨v12, e12, 4, [[Pg XL, Pg YL, .bool bs, sls u32 ls]]⟩ := by
      simp [hr12, hr196, hi, ← yl]
     have hr7' : frC2 rows 196 7 = R 7 := by simp [hr7, r7]
     have hr11' : frC2 rows 196 11 = R 11 := by simp [hr11, r11]
     refine W.exit ?_; simp only [pX, if_true, if_false, reduceIte, Nat.reduceEqDiff]
     exact ⟨_, Gh_fa _ [7, 10, 11, 12], _, _, _, _, rfl, hr7', hr11', hr12'⟩
  rintro _ ⟨v12, e12, rows, clk, rfl, hr7, hr11, hr12⟩
  rw [r7] at hr7
  rw [r11] at hr11
  have hms : (m3 c0).s = bs := hbs.symm
  have hml : (m3 c0).l = ls := hls.symm
  have hmx : (m3 c0).x = XL := hXL.symm
  have hmy : (m3 c0).y = YL := hYL.symm
  rw [hms, hml, hmx, hmy] at m1 m2 m4
  clear hms hml hmx hmy hbs hls hXL hYL elx ely xt xa xl yt ya yl hD1 hD2 hD3 hD4 th tt hr11 r7 r11
  refine W.sdrw (fun K hK => ?_)
  simp (maxSteps := 4000000) (disch := omega) [gA, wA, hr7, hr12]
  refine callR m1 ?_
  simp (maxSteps := 4000000) (disch := omega) [gA, wA, hr7, hr12]
  refine callR m2 ?_
  simp (maxSteps := 4000000) (disch := omega) [gA, wA, hr7, hr12]
  refine callR s1 ?_
  simp (maxSteps := 4000000) (disch := omega) [gA, wA, hr7, hr12]
  refine callR o1 ?_
  simp (maxSteps := 4000000) (disch := omega) [gA, wA, hr7, hr12]
  refine callR s1 ?_
  simp (maxSteps := 4000000) (disch := omega) [gA, wA, hr7, hr12]
  refine callR m4 ?_
  simp (maxSteps := 4000000) (disch := omega) [gA, wA, hr7, hr12]
  refine callR u1 ?_
  simp (maxSteps := 4000000) (disch := omega) [gA, wA, hr7, hr12]
  refine callR i1 ?_
  simp (maxSteps := 4000000) (disch := omega) [gA, wA, hr7, hr12]
  refine callR u1 ?_
  simp (maxSteps := 4000000) (disch := omega) [gA, wA, hr7, hr12]
  refine callR hw ?_
  simp (maxSteps := 4000000) (disch := omega) [gA, wA, hr7, hr12]
  refine W.lv [6] hK fun J j => ?_; clear hK K; simp; refine j _ ?_; clear j J
  refine W.ret ?_
  simp [go]
end Go.Proofs.YtdiladmkbpnhoaaGreat
