import Derived.Test.YtdiladmkbpnhoaaGreatLab
set_option linter.unusedSimpArgs false
set_option linter.unusedVariables false
namespace Go.Proofs.YtdiladmkbpnhoaaGreat
open Go Pm
theorem pe_po (l : List (List Int)) : .sl (l.map fun x => [Po x]) = sls pe (l.map fun x => x.map rw') := by
 have h : (fun x : List Int => [Po x]) = fun x => [Pg (x.map rw')] := funext fun x => by rw [Po_eq]
 rw [h]
 simp only [sls, emap, List.map_map, Function.comp_def, pe]
theorem nrm_rw (x : List Int) (h : Cn x) : nrm (x.map rw') = x.map rw' := by
 simp only [nrm, cfs, map_gv_rw]; rw [show cutR x = x from h]
theorem cfs_rw (x : List Int) (h : Cn x) : cfs (x.map rw') = x := by simp only [cfs, map_gv_rw]; exact h
theorem bd_small {x : List Int} (h : ∀ c ∈ x, c.natAbs < 65536) (hl : x.length ≤ 4) : Bd LL 1 4 x := ⟨hl, fun c hc => sz_le hLL (by have := h c hc; show _ < 4294967296 ^ 1; omega)⟩
theorem row2_ret (a b : Int) (ha : a ≠ 0 ∧ a.natAbs < 100) (hb : b ≠ 0 ∧ b.natAbs < 100) : Ret env.P 83 [.sl [[Po [a]], [Po [b]]]] (sls pe [[rw' a], [rw' b]]) := by
 have h1 : Cn [a] := by show cutR [a] = [a]; simp [cutR, ha.1]
 have h2 : Cn [b] := by show cutR [b] = [b]; simp [cutR, hb.1]
 have hp : ∀ p ∈ [[rw' a], [rw' b]], POK p := fun p hp => by
  simp only [List.mem_cons, List.not_mem_nil, or_false] at hp
  rcases hp with rfl | rfl
  ·exact (PB.of (bd_small (x := [a]) (by simp; omega) (by simp)) (by decide) (by decide)).pok
  ·exact (PB.of (bd_small (x := [b]) (by simp; omega) (by simp)) (by decide) (by decide)).pok
 have := Row_ret [[rw' a], [rw' b]] (by simp) hp
 have e := pe_po [[a], [b]]
 simp only [List.map_cons, List.map_nil] at e this
 rw [← e] at this
 have n1 := nrm_rw [a] h1
 have n2 := nrm_rw [b] h2
 simp only [List.map_cons, List.map_nil] at n1 n2
 rw [n1, n2] at this
 exact this
theorem Of1_ret (a : Int) (ha : a ≠ 0 ∧ a.natAbs < 100) : Ret env.P 43 [.sl [[.int .i64 a]]] (Po [a]) := by
 have := pOf_ret [a] (by simp) (by simp; omega)
 rw [show cutR [a] = [a] by simp [cutR, ha.1]] at this
 exact this
theorem okM_mtx {l : List RP} {n m : Nat} : okM (mtx l n m) ↔ (n = 0 ∨ m = n) ∧ n ≤ 4 := by
 rw [okM, mtx_len]
 constructor
 ·rintro ⟨h1, h2⟩
  refine ⟨?_, h2⟩
  rcases Nat.eq_zero_or_pos n with h0 | h0
  ·exact .inl h0
  ·right
   have h3 : rwR l m 0 ∈ mtx l n m := by simp only [mtx, List.mem_map, List.mem_range]; exact ⟨0, h0, rfl⟩
   have h4 := h1 _ h3
   simpa [rwR] using h4
 ·rintro ⟨h1, h2⟩
  refine ⟨fun r hr => ?_, h2⟩
  have h3 := (mtx_row hr).1
  rcases h1 with h1 | h1
  ·subst h1; simp [mtx] at hr
  ·omega
theorem mtx_det {l : List RP} (hl : ∀ p ∈ l, InP p) (n m : Nat) (hn : n ≤ 6) (hm : m ≤ 6) : Ret env.P 87 [sls me (mtx l n m)] (if okM (mtx l n m) then .tup [Po (dcol n (mv (mtx l n m))), .int .i64 0] else .tup [Po [], .int .i64 1]) := by
 have := Det_ret (s := 1) (n := 3) (by decide) (by decide) (mtx l n m) (by rw [mtx_len]; omega) (fun r hr => ⟨by rw [(mtx_row hr).1]; omega, fun p hp => by
  have h := (mtx_row hr).2 hl p hp
  exact ⟨h.pok (by decide) (by decide), h.bd⟩⟩)
 rwa [mtx_len] at this
theorem mv_len (m : List (List RP)) : (mv m).length = m.length := by simp [mv]
theorem mv_row {m : List (List RP)} {k : Nat} (h : ∀ r ∈ m, r.length = k) : ∀ r ∈ mv m, r.length = k := fun r hr => by
 simp only [mv, List.mem_map] at hr
 obtain ⟨r', hr', rfl⟩ := hr
 simp [h r' hr']
theorem mtx_sq {l : List RP} (n : Nat) : ∀ r ∈ mtx l n n, r.length = n := fun r hr => (mtx_row hr).1
theorem mtx_EQ {l : List RP} (hl : ∀ p ∈ l, InP p) (n m : Nat) : EQ 32 3 (mv (mtx l n m)) := ⟨fun r hr x hx => by
 simp only [mv, List.mem_map] at hr
 obtain ⟨r', hr', rfl⟩ := hr
 simp only [List.mem_map] at hx
 obtain ⟨p, hp, rfl⟩ := hx
 exact ((mtx_row hr').2 hl p hp).bd2.cut⟩
theorem mtx_EB {l : List RP} (hl : ∀ p ∈ l, InP p) (n m : Nat) : EB 1 3 (mv (mtx l n m)) := EB.mv fun r hr p hp => ((mtx_row hr).2 hl p hp).bd
theorem bd_ret {s n : Nat} {x : List Int} (h : Bd 2 s n x) (hs : s < 1099511627776) : ∀ c ∈ x, Z c := fun c hc => by have := h.sz c hc; simp only [Z]; omega
end Go.Proofs.YtdiladmkbpnhoaaGreat
