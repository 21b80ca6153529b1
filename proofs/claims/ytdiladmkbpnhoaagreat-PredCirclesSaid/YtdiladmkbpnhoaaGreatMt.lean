import Derived.Test.YtdiladmkbpnhoaaGreatMd
set_option linter.unusedSimpArgs false
set_option linter.unusedVariables false
namespace Pm
open Go
def lexLater (md : Region.Mode) (ops : Array Oper) (k : Nat) (o : Oper) : List Oper → Bool
 | [] => true
 | p :: l => (p.after.any (fun e => Region.binds md e && e.on == k) || o.apart ops p) && lexLater md ops k o l
def lexF (md : Region.Mode) (ops : Array Oper) : Nat → List Oper → Bool
 | _, [] => true
 | k, o :: l => (o.after.all fun e => !Region.binds md e || Nat.blt e.on k) && lexLater md ops k o l && lexF md ops (k + 1) l
theorem lexLater_spec {md : Region.Mode} {ops : Array Oper} {k : Nat} {o : Oper} : ∀ {l : List Oper}, lexLater md ops k o l = true → ∀ p ∈ l, (p.after.any (fun e => Region.binds md e && e.on == k) || o.apart ops p) = true
 | [], _, p, hp => by cases hp
 | q :: l, h, p, hp => by
  simp only [lexLater, Bool.and_eq_true] at h
  rcases List.mem_cons.1 hp with rfl | hp
  ·exact h.1
  ·exact lexLater_spec h.2 p hp
theorem lexF_head {md : Region.Mode} {ops : Array Oper} : ∀ (l : List Oper) (k : Nat) (listed : Array Bool), (∀ j, l[j]? = ops[k + j]?) → k + l.length = ops.size → listed.size = ops.size →
  (∀ j, j < ops.size → listed.getD j true = decide (j < k)) → lexF md ops k l = true → Region.lexHead md ops 0 l.length k listed = true
 | [], k, listed, hl, hk, hs, hL, h => by
  simp only [List.length_nil, Region.lexHead, Region.seqB]
  rw [List.isEmpty_iff]
  refine List.eq_nil_iff_forall_not_mem.2 fun j hj => ?_
  obtain ⟨h1, o, ho, _⟩ := mem_ready.1 hj
  have hlt : j < ops.size := (Array.getElem?_eq_some_iff.1 ho).1
  rw [hL j hlt] at h1
  simp only [List.length_nil] at hk
  simp only [decide_eq_false_iff_not] at h1
  omega
 | o :: l, k, listed, hl, hk, hs, hL, h => by
  simp only [List.length_cons] at hk
  have h0 : ops[k]? = some o := by simpa using (hl 0).symm
  simp only [lexF, Bool.and_eq_true] at h
  obtain ⟨⟨h1, h2⟩, h3⟩ := h
  simp only [List.length_cons, Region.lexHead, Bool.and_eq_true]
  refine ⟨⟨?_, ?_⟩, ?_⟩
  ·have : k ∈ Region.ready md ops listed := mem_ready.2 ⟨by rw [hL k (by omega)]; simp, o, h0, fun e he hb => by
    have h4 := Array.all_eq_true_iff_forall_mem.1 h1 e he
    simp only [hb, Bool.not_true, Bool.false_or] at h4
    have h5 : e.on < k := by simpa [Nat.blt_eq] using h4
    have h6 := hL e.on (by omega)
    rw [decide_eq_true h5] at h6
    have h7 : e.on < listed.size := by omega
    simpa [h7] using h6⟩
   simpa using this
  ·unfold Region.free
   rw [h0]
   simp only
   rw [List.all_eq_true]
   intro j hj
   rw [List.mem_range] at hj
   rcases Nat.lt_trichotomy j k with h4 | h4 | h4
   ·rw [hL j hj, decide_eq_true h4]; simp
   ·subst h4; simp
   ·obtain ⟨i, rfl⟩ : ∃ i, j = k + (i + 1) := ⟨j - k - 1, by omega⟩
    have h5 := hl (i + 1)
    simp only [List.getElem?_cons_succ] at h5
    cases h6 : ops[k + (i + 1)]? with
    | none => simp
    | some oj =>
     rw [h6] at h5
     have := lexLater_spec h2 oj (List.mem_of_getElem? h5)
     simp only [this, Bool.or_true]
  ·refine lexF_head l (k + 1) _ (fun j => by have := hl (j + 1); simpa [Nat.add_assoc, Nat.add_comm 1 j] using this) (by omega) (by simpa using hs) (fun j hj => ?_) h3
   by_cases hjk : k = j
   ·subst hjk
    have : k < listed.size := by omega
    simp [this]
   ·rw [getD_set_ne true hjk, hL j hj]
    rw [decide_eq_decide]; omega
def regF (n tl : Nat) (ops : Array Oper) (draw : Bool) : Bool :=
 (ops.all fun o => match o.dst with | some d => decide (d < n) | none => true) &&
 (!draw || (newDst (if tl = 0 then ops.toList else ops.toList.take (ops.size - tl)) && (if tl = 0 then Region.noSelect ops && lexF .any ops 0 ops.toList else decide (tl ≤ ops.size) && Region.lexTailB .any ops (ops.size - tl))))
theorem regF_ok {n tl : Nat} {ops : Array Oper} {draw : Bool} (h : regF n tl ops draw = true) : regOK n tl ops draw = true := by
 unfold regF at h
 unfold regOK
 simp only [Bool.and_eq_true, Bool.or_eq_true] at h ⊢
 refine ⟨h.1, h.2.imp id fun h2 => ⟨h2.1, ?_⟩⟩
 have h3 := h2.2
 by_cases ht : tl = 0
 ·rw [if_pos ht] at h3 ⊢
  simp only [Bool.and_eq_true] at h3 ⊢
  refine ⟨h3.1, ?_⟩
  have := lexF_head (md := .any) (ops := ops) ops.toList 0 (Array.replicate ops.size false) (fun j => by simp) (by simp) (by simp) (fun j hj => by simp [hj]) h3.2
  simpa using this
 ·rw [if_neg ht] at h3 ⊢; exact h3
def codeF (n : Nat) (tl : Nat → Nat) : Code → Bool
 | .region id ops draw => regF n (tl id) ops draw
 | .seq a b => codeF n tl a && codeF n tl b
 | .cond _ t e => codeF n tl t && codeF n tl e
 | .block _ c => codeF n tl c
 | .loop c => codeF n tl c
 | c => codeOK n tl c
theorem codeF_ok {n : Nat} {tl : Nat → Nat} (c : Code) : codeF n tl c = true → codeOK n tl c = true := by
 fun_induction codeF n tl c with
 | case1 id ops draw => exact regF_ok
 | case2 a b h1 h2 => simp only [codeOK, Bool.and_eq_true]; exact fun h => ⟨h1 h.1, h2 h.2⟩
 | case3 x t e h1 h2 => simp only [codeOK, Bool.and_eq_true]; exact fun h => ⟨h1 h.1, h2 h.2⟩
 | case4 i c h1 => simp only [codeOK]; exact h1
 | case5 c h1 => simp only [codeOK]; exact h1
 | case6 c => exact id
theorem ret_of_Wg {E : Env} {fid : FuncId} {fn : Func} {code : Code} (tl : Nat → Nat) {args : List PV} {r : PV} (l : List (Nat × PV)) (h1 : E.P.funcs[fid]? = some fn) (h2 : fn.body = some code) (h3 : (fn.name == "runtime.NumGoroutine") = false)
  (hok : codeF fn.ntmps tl code = true) (hargs : args.length ≤ fn.ntmps) (hl : ∀ p ∈ l, args.getD p.1 .undef = p.2) (h : W E fn.ntmps tl code (pfin E fn.results.toList r) ⟨fa l, fun _ => none, 0⟩) : Ret E.P fid args r :=
 ret_of_Wf tl l h1 h2 h3 (codeF_ok code hok) hargs hl h
end Pm
