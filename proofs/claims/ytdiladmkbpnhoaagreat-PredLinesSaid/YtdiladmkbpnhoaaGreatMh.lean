import Derived.Test.YtdiladmkbpnhoaaGreatMe
import Derived.ProofKit
import Derived.JoinedOf
import Derived.SizedLaws
import Derived.Carry
import Derived.Deep.Slices
import Derived.Test.YtdiladmkbpnhoaaGreatMd
set_option linter.unusedSimpArgs false
set_option linter.unusedVariables false
namespace Pm
open Go Go.RowKit Go.ChangeShapes Go.WideShapes Go.Deep
def Low (w : World) : Stab := fun b _ => b < w.heap.size
theorem cell_low {w : World} {a : Addr} {v : Value} (h : w.cell? a = some v) : a.block < w.heap.size ∧ a.spot = none := by
 unfold World.cell? at h
 split at h
 ·rename_i hb
  refine ⟨?_, ?_⟩
  ·exact (Array.getElem?_eq_some_iff.1 hb).1
  ·split at h
   ·cases h
   ·rename_i hs; simpa using hs
 ·cases h
def Opn (P : Program) (t : TypeId) (R : List PV → Prop) : Prop :=
 ∀ (H : Type) (enc : TypeId × Value → H) (w : World) (fuel : Nat) (cs : List Value) (x : DataW H × List MemPlace),
  DataW.trod enc P w 0 (fun _ => true) true fuel t cs = some x → ∃ ps, R ps ∧ RepList (Low w) w ps cs ∧ ∀ v ∈ cs, v.oneCell' = true
theorem RepList.length {S : Stab} {w : World} : ∀ {ps : List PV} {vs : List Value}, RepList S w ps vs → ps.length = vs.length
 | [], vs, h => by simp only [RepList] at h; simp [h]
 | p :: ps, vs, h => by
  simp only [RepList] at h
  obtain ⟨v, vs', rfl, _, h2⟩ := h
  simp [RepList.length h2]
theorem RepList.append {S : Stab} {w : World} : ∀ {ps qs : List PV} {vs us : List Value}, RepList S w ps vs → RepList S w qs us → RepList S w (ps ++ qs) (vs ++ us)
 | [], qs, vs, us, h, h' => by simp only [RepList] at h; subst h; simpa using h'
 | p :: ps, qs, vs, us, h, h' => by
  simp only [RepList] at h
  obtain ⟨v, vs', rfl, h1, h2⟩ := h
  simp only [List.cons_append, RepList]
  exact ⟨v, vs' ++ us, rfl, h1, RepList.append h2 h'⟩
theorem Opn.int {P : Program} {t : TypeId} (k : IntKind) (ht : P.underlying t = some (.int k)) : Opn P t (fun ps => ∃ n, ps = [.int k n] ∧ k.min ≤ n ∧ n ≤ k.max) := by
 intro H enc w fuel cs x h
 obtain ⟨n, rfl, _, hw⟩ := DataW.trod_int ht h
 simp only [Lit.wf, Bool.and_eq_true, decide_eq_true_eq] at hw
 exact ⟨[.int k n], ⟨n, rfl, hw⟩, ⟨_, _, rfl, by simp [Rep], rfl⟩, by simp [Value.oneCell']⟩
theorem Opn.bool {P : Program} {t : TypeId} (ht : P.underlying t = some .bool) : Opn P t (fun ps => ∃ b, ps = [.bool b]) := by
 intro H enc w fuel cs x h
 obtain ⟨n, rfl, _⟩ := DataW.trod_bool ht h
 exact ⟨[.bool n], ⟨n, rfl⟩, ⟨_, _, rfl, by simp [Rep], rfl⟩, by simp [Value.oneCell']⟩
theorem repCells_low {w : World} {b : Nat} : ∀ {ps : List PV} {vs : List Value} {o : Nat}, RepList (Low w) w ps vs → (∀ v ∈ vs, v.oneCell' = true) → (∀ i, i < vs.length → w.cell? ⟨b, o + i, none⟩ = vs[i]?) → RepCells (Low w) w b o ps
 | [], _, _, _, _, _ => by simp [RepCells]
 | p :: ps, vs, o, h, h1, h2 => by
  simp only [RepList] at h
  obtain ⟨v, vs', rfl, h3, h4⟩ := h
  have hc : w.cell? ⟨b, o, none⟩ = some v := by simpa using h2 0 (by simp)
  simp only [RepCells]
  refine ⟨⟨v, hc, (cell_low hc).1, h1 v (by simp), h3⟩, repCells_low h4 (fun u hu => h1 u (by simp [hu])) fun i hi => ?_⟩
  have := h2 (i + 1) (by simpa using hi)
  simpa [Nat.add_assoc, Nat.add_comm 1] using this
theorem repEls_low {w : World} {b c : Nat} {f : Nat → List PV} : ∀ (n o k : Nat), (∀ i, k ≤ i → i < k + n → RepCells (Low w) w b (o + (i - k) * c) (f i) ∧ (f i).length = c) → RepEls (Low w) w b o ((List.range' k n).map f)
 | 0, o, k, _ => by simp [RepEls]
 | n + 1, o, k, h => by
  obtain ⟨h1, h2⟩ := h k (Nat.le_refl _) (by omega)
  simp only [List.range'_succ, List.map_cons, RepEls]
  refine ⟨by simpa using h1, repEls_low (c := c) n _ _ fun i hi hi2 => ?_⟩
  obtain ⟨h3, h4⟩ := h i (by omega) (by omega)
  refine ⟨?_, h4⟩
  rw [h2]
  have e : o + c + (i - (k + 1)) * c = o + (i - k) * c := by
   have : i - k = (i - (k + 1)) + 1 := by omega
   rw [this, Nat.add_mul]; omega
  rw [e]; exact h3
theorem Opn.slice {P : Program} {t e : TypeId} {R : List PV → Prop} (ht : P.underlying t = some (.slice e)) (hc0 : 0 < P.cellsOf e) (he : Opn P e R) : Opn P t (fun ps => ∃ l : List (List PV), ps = [.sl l] ∧ (∀ x ∈ l, R x) ∧ l.length ≤ maxLen) := by
 intro H enc w fuel cs x h
 rcases open_slice ht h with ⟨rfl, _⟩ | ⟨a, len, cap, m, n, D, Pl, rfl, _, hl, hm, hmm, _, hx⟩
 ·refine ⟨[.sl []], ⟨[], rfl, by simp, by simp⟩, ⟨_, _, rfl, ?_, rfl⟩, by simp [Value.oneCell']⟩
  simp only [Rep]
  exact ⟨none, 0, rfl, by simp, by simp, .inl trivial⟩
 ·have hlm : len ≤ m := by rw [hmm]; split <;> omega
  have each : ∀ i, i < len → ∃ ps : List PV, R ps ∧ ps.length = P.cellsOf e ∧ ∃ cs', w.cells? 0 (a.add (i * P.cellsOf e)) (P.cellsOf e) = some cs' ∧ RepList (Low w) w ps cs' ∧ ∀ v ∈ cs', v.oneCell' = true := by
   intro i hi
   obtain ⟨cs', h1, h2⟩ := hx i (by omega)
   obtain ⟨ps, h3, h4, h5⟩ := he H enc w _ _ _ h2
   refine ⟨ps, h3, ?_, cs', h1, h4, h5⟩
   rw [h4.length]; exact (World.cells?_some h1).2.1
  obtain ⟨f, hf⟩ := choose_lt each
  refine ⟨[.sl ((List.range' 0 len).map f)], ⟨_, rfl, ?_, by simp; omega⟩, ⟨_, _, rfl, ?_, rfl⟩, by simp [Value.oneCell']⟩
  ·intro y hy
   simp only [List.mem_map, List.mem_range'_1] at hy
   obtain ⟨i, hi, rfl⟩ := hy
   exact (hf i (by omega)).1
  ·simp only [Rep]
   refine ⟨some a, cap, by simp, by simpa using hl, hm, ?_⟩
   by_cases h0 : len = 0
   ·left; simp [h0]
   right
   have hsp : a.spot = none := by
    obtain ⟨_, _, cs', h3, _, _⟩ := hf 0 (by omega)
    obtain ⟨_, h4, h5⟩ := World.cells?_some h3
    have h6 := h5 0 (by omega)
    rw [List.getElem?_eq_getElem (by omega)] at h6
    have h7 := (cell_low h6).2
    simpa [Addr.add] using h7
   obtain ⟨b, o, sp⟩ := a
   simp only at hsp
   subst hsp
   refine ⟨b, o, rfl, repEls_low (c := P.cellsOf e) len o 0 fun i _ hi => ?_⟩
   obtain ⟨_, h2, cs', h3, h4, h5⟩ := hf i (by omega)
   obtain ⟨_, h6, h7⟩ := World.cells?_some h3
   refine ⟨repCells_low h4 h5 fun j hj => ?_, h2⟩
   rw [← h7 j (by omega), add_plain, add_plain]
   simp
def Fits (P : Program) : Nat → List Field → List (List PV → Prop) → Nat → Prop
 | o, [], [], n => o = n
 | o, f :: fs, R :: Rs, n => f.offset = o ∧ Opn P f.type R ∧ Fits P (o + P.cellsOf f.type) fs Rs n
 | _, _, _, _ => False
def Each : List (List PV → Prop) → List PV → Prop
 | [], ps => ps = []
 | R :: Rs, ps => ∃ a b, ps = a ++ b ∧ R a ∧ Each Rs b
theorem fits_rep {P : Program} {H : Type} {enc : TypeId × Value → H} {w : World} {m n : Nat} : ∀ {fs : List Field} {Rs : List (List PV → Prop)} {o : Nat} {cs : List Value} {xs : List (DataW H × List MemPlace)}, Fits P o fs Rs n → cs.length = n → xs.length = fs.length →
  (∀ (i : Nat) (f : Field), fs[i]? = some f → DataW.trod enc P w 0 (fun _ => true) true m f.type ((cs.drop f.offset).take (P.cellsOf f.type)) = xs[i]?) →
  ∃ ps, Each Rs ps ∧ RepList (Low w) w ps (cs.drop o) ∧ ∀ v ∈ cs.drop o, v.oneCell' = true
 | [], [], o, cs, xs, h, hn, _, _ => by
  simp only [Fits] at h
  subst h
  refine ⟨[], rfl, ?_, ?_⟩
  ·simp only [RepList]; simp [← hn]
  ·simp [← hn]
 | f :: fs, R :: Rs, o, cs, xs, h, hn, hl, hx => by
  simp only [Fits] at h
  obtain ⟨ho, hO, hF⟩ := h
  have h0 := hx 0 f rfl
  match xs, hl with
  | y :: xs, hl =>
   rw [List.getElem?_cons_zero, ho] at h0
   obtain ⟨a, h1, h2, h3⟩ := hO _ _ _ _ _ _ h0
   obtain ⟨b, h4, h5, h6⟩ := fits_rep (xs := xs) hF hn (by simpa using hl) (fun i g hg => by simpa using hx (i + 1) g (by simpa using hg))
   have e : cs.drop o = (cs.drop o).take (P.cellsOf f.type) ++ cs.drop (o + P.cellsOf f.type) := by
    rw [← List.drop_drop, List.take_append_drop]
   refine ⟨a ++ b, ⟨a, b, rfl, h1, h4⟩, ?_, ?_⟩
   ·rw [e]; exact h2.append h5
   ·rw [e]; intro v hv
    rcases List.mem_append.1 hv with hv | hv
    ·exact h3 v hv
    ·exact h6 v hv
 | [], _ :: _, _, _, _, h, _, _, _ => by simp [Fits] at h
 | _ :: _, [], _, _, _, h, _, _, _ => by simp [Fits] at h
theorem Opn.struct {P : Program} {t : TypeId} {fs : List Field} {Rs : List (List PV → Prop)} (ht : P.underlying t = some (.struct fs.toArray)) (hF : Fits P 0 fs Rs (P.cellsOf t)) : Opn P t (Each Rs) := by
 intro H enc w fuel cs x h
 obtain ⟨xs, n, _, _, hl, hxl, hx⟩ := DataW.trod_struct ht h
 obtain ⟨ps, h1, h2, h3⟩ := fits_rep hF hl (by simpa using hxl) (fun i f hf => hx i f (by simpa using hf))
 exact ⟨ps, h1, by simpa using h2, by simpa using h3⟩
theorem Opn.mono {P : Program} {t : TypeId} {R R' : List PV → Prop} (h : Opn P t R) (hR : ∀ ps, R ps → R' ps) : Opn P t R' := fun H enc w fuel cs x hx => by
 obtain ⟨ps, h1, h2⟩ := h H enc w fuel cs x hx
 exact ⟨ps, hR _ h1, h2⟩
def OpnA (P : Program) (t : TypeId) (Q : PV → Prop) : Prop :=
 ∀ (H : Type) (enc : TypeId × Value → H) (w : World) (base : Nat) (v : Value) (d : DataW H) (p : List MemPlace),
  Value.okWide P w .any base t v → DataW.Trod enc P w 0 (fun _ => true) true t v d p → ∃ q, Q q ∧ Rep (Low w) w q v
theorem Opn.one {P : Program} {t : TypeId} {R : List PV → Prop} (h : Opn P t R) (hs : ∀ w base v, Value.okWide P w .any base t v → v.cells = #[v]) : OpnA P t (fun q => R [q]) := by
 intro H enc w base v d p hok ⟨fuel, hf⟩
 obtain ⟨ps, h1, h2, _⟩ := h _ _ _ _ _ _ hf
 rw [hs _ _ _ hok] at h2
 have hl := h2.length
 match ps, hl with
 | [q], _ =>
  simp only [RepList] at h2
  obtain ⟨v', vs', h3, h4, _⟩ := h2
  cases h3
  exact ⟨q, h1, h4⟩
theorem OpnA.int {P : Program} {t : TypeId} (k : IntKind) (ht : P.underlying t = some (.int k)) : OpnA P t (fun q => ∃ n, q = .int k n ∧ k.min ≤ n ∧ n ≤ k.max) := by
 have := (Opn.int k ht).one fun w base v h => by obtain ⟨n, rfl⟩ := okWide_int ht h; rfl
 intro H enc w base v d p h1 h2
 obtain ⟨q, ⟨n, h3, h4⟩, h5⟩ := this H enc w base v d p h1 h2
 exact ⟨q, ⟨n, by simpa using h3, h4⟩, h5⟩
theorem OpnA.bool {P : Program} {t : TypeId} (ht : P.underlying t = some .bool) : OpnA P t (fun q => ∃ b, q = .bool b) := by
 have := (Opn.bool ht).one fun w base v h => by obtain ⟨n, rfl⟩ := okWide_bool ht h; rfl
 intro H enc w base v d p h1 h2
 obtain ⟨q, ⟨n, h3⟩, h5⟩ := this H enc w base v d p h1 h2
 exact ⟨q, ⟨n, by simpa using h3⟩, h5⟩
theorem OpnA.slice {P : Program} {t e : TypeId} {R : List PV → Prop} (ht : P.underlying t = some (.slice e)) (hc0 : 0 < P.cellsOf e) (he : Opn P e R) : OpnA P t (fun q => ∃ l : List (List PV), q = .sl l ∧ (∀ x ∈ l, R x) ∧ l.length ≤ maxLen) := by
 have := (Opn.slice ht hc0 he).one fun w base v h => by obtain ⟨a, len, cap, rfl⟩ := okWide_slice ht h; rfl
 intro H enc w base v d p h1 h2
 obtain ⟨q, ⟨n, h3, h4⟩, h5⟩ := this H enc w base v d p h1 h2
 exact ⟨q, ⟨n, by simpa using h3, h4⟩, h5⟩
theorem OpnA.struct {P : Program} {t : TypeId} {fs : List Field} {Rs : List (List PV → Prop)} (ht : P.underlying t = some (.struct fs.toArray)) (hF : Fits P 0 fs Rs (P.cellsOf t)) : OpnA P t (fun q => ∃ l, q = .ag l ∧ Each Rs l) := by
 intro H enc w base v d p hok ⟨fuel, hf⟩
 obtain ⟨ps, h1, h2, _⟩ := Opn.struct ht hF _ _ _ _ _ _ hf
 simp only [Value.okWide, ht] at hok
 obtain ⟨cs, rfl, _⟩ := hok
 refine ⟨.ag ps, ⟨ps, rfl, h1⟩, ?_⟩
 simp only [Rep]
 exact ⟨cs.toList, by simp, h2⟩
theorem OpnA.mono {P : Program} {t : TypeId} {Q Q' : PV → Prop} (h : OpnA P t Q) (hQ : ∀ q, Q q → Q' q) : OpnA P t Q' := fun H enc w base v d p h1 h2 => by
 obtain ⟨q, h3, h4⟩ := h H enc w base v d p h1 h2
 exact ⟨q, hQ _ h3, h4⟩
def Args (P : Program) : List TypeId → List (PV → Prop) → Prop
 | [], [] => True
 | t :: ts, Q :: Qs => OpnA P t Q ∧ P.readableRec t = true ∧ t < P.types.size ∧ Args P ts Qs
 | _, _ => False
def Qall : List (PV → Prop) → List PV → Prop
 | [], ps => ps = []
 | Q :: Qs, ps => ∃ q qs, ps = q :: qs ∧ Q q ∧ Qall Qs qs
theorem args_rep {P : Program} {H : Type} {enc : TypeId × Value → H} {w : World} {base : Nat} : ∀ {ts : List TypeId} {Qs : List (PV → Prop)} {vs : List Value} {ds : List (DataW H)} {p : List MemPlace}, Args P ts Qs →
  (∀ (j : Nat) t v, ts[j]? = some t → vs[j]? = some v → Value.okWide P w .any base t v) → DataW.TrodAll enc P w 0 (fun _ => true) true ts vs ds p → ∃ ps, Qall Qs ps ∧ RepList (Low w) w ps vs
 | [], [], vs, ds, p, _, _, h => by
  obtain ⟨rfl, _⟩ := trodAll_nil h
  exact ⟨[], rfl, rfl⟩
 | t :: ts, Q :: Qs, vs, ds, p, hA, hok, h => by
  obtain ⟨v, vs', d, ds', p1, q1, rfl, rfl, rfl, h1, h2⟩ := trodAll_cons h
  obtain ⟨hO, _, _, hA'⟩ := hA
  obtain ⟨q, h3, h4⟩ := hO _ _ _ base _ _ _ (hok 0 t v rfl rfl) h1
  obtain ⟨ps, h5, h6⟩ := args_rep hA' (fun j t' v' hj hv => hok (j + 1) t' v' (by simpa using hj) (by simpa using hv)) h2
  exact ⟨q :: ps, ⟨q, ps, rfl, h3, h5⟩, ⟨v, vs', rfl, h4, h6⟩⟩
 | [], _ :: _, _, _, _, h, _, _ => by simp [Args] at h
 | _ :: _, [], _, _, _, h, _, _ => by simp [Args] at h
theorem args_stay {P : Program} (hl : laidOutB P = true) {H : Type} {enc : TypeId × Value → H} {w w' : World} (hb : Below w.heap.size w w') : ∀ {ts : List TypeId} {Qs : List (PV → Prop)} {vs : List Value} {ds : List (DataW H)} {p : List MemPlace}, Args P ts Qs → (∀ x ∈ p, x.block < w.heap.size) →
  DataW.TrodAll enc P w 0 (fun _ => true) true ts vs ds p → DataW.TrodAll enc P w' 0 (fun b => decide (b < w.heap.size)) true ts vs ds p
 | [], [], vs, ds, p, _, _, h => by
  obtain ⟨rfl, rfl, rfl⟩ := trodAll_nil h
  exact trodAll_mk0
 | t :: ts, Q :: Qs, vs, ds, p, hA, hlt, h => by
  obtain ⟨v, vs', d, ds', p1, q1, rfl, rfl, rfl, h1, h2⟩ := trodAll_cons h
  obtain ⟨_, h3, h4, hA'⟩ := hA
  exact ⟨p1, q1, Below.trod hl h3 h4 h1 hb (fun x hx => hlt x (by simp [hx])), args_stay hl hb hA' (fun x hx => hlt x (by simp [hx])) h2, rfl⟩
 | [], _ :: _, _, _, _, h, _, _ => by simp [Args] at h
 | _ :: _, [], _, _, _, h, _, _ => by simp [Args] at h
theorem law_lift {C : Checked} {f : FuncId} {fn : Func} {s : ChangeSpec} {Qs : List (PV → Prop)} {os : Os} {H : Type} {enc : TypeId × Value → H} {tb : TypeId}
  (own : ownKnob C.prog.godebug = none) (hl : laidOutB C.prog = true) (started : os.Started) (noInit : C.prog.inits.idxOf? f = none) (hfn : C.prog.funcs[f]? = some fn)
  (witness : ∃ (w : World) (tape : Tape) (i : Input), w.os = os ∧ (w.forCall tape i).Shaped C.prog ∧ i.vars = [] ∧ Input.okWide C.prog (w.forCall tape i) .any w.heap.size f i ∧
   s.pre6 enc C.prog fn [] false (w.forCall tape i).memory i.args ∧ ({} : Assume).holds C.prog (lone (Frame.enter C.prog f i.args .normal) [] (w.forCall tape i)))
  (hv : s.vars = []) (hs : ∀ ds : List (DataW H), ds.length = fn.params.size → s.fn H ds = { results := [.lit (.bool true)], args := ds })
  (hres : fn.resultTypes = #[tb]) (htb : C.prog.underlying tb = some .bool)
  (hA : Args C.prog fn.params.toList Qs) (h : ∀ ps, Qall Qs ps → Ret C.prog f ps (.bool true)) :
  ReturnsInHanded {} C os f .any (s.pre6 enc C.prog fn [] false) (s.post enc C.prog fn false true false false) := by
 refine returnsInHanded_of_change own started noInit hfn witness ?_
 intro W base args ds gs before hval hW _ _
 have hW' := hW
 obtain ⟨p, q, hT, hV, rfl, _, _⟩ := hW
 rw [hv] at hV
 obtain ⟨rfl, rfl⟩ := trodVars_none hV
 obtain ⟨ps, h1, h2⟩ := args_rep (base := base) hA (fun j t v hj hv => hval j t v (by simpa using hj) (by simpa using hv)) hT
 obtain ⟨_, hcall⟩ := h ps h1
 have h3 := hcall W (Low W) args.toList (fun b o hb => hb) h2
 refine Calls.mono h3 fun e w' hw => ?_
 obtain ⟨v, rfl, hbel, S', _, _, hrep⟩ := hw
 simp only [Rep] at hrep
 subst hrep
 refine ⟨_, rfl, ?_⟩
 have hlen : ds.length = fn.params.size := by
  have : ∀ {ts : List TypeId} {vs : List Value} {ds : List (DataW H)} {p : List MemPlace}, DataW.TrodAll enc C.prog W 0 (fun _ => true) true ts vs ds p → ds.length = ts.length := by
   intro ts
   induction ts with
   | nil => intro vs ds p h; obtain ⟨_, rfl, _⟩ := trodAll_nil h; rfl
   | cons t ts ih =>
    intro vs ds p h
    obtain ⟨v, vs', d, ds', p1, q1, rfl, rfl, rfl, h1, h2⟩ := trodAll_cons h
    simp [ih h2]
  rw [this hT]; simp
 have hlt : ∀ x ∈ p, x.block < W.heap.size := fun x hx => hW'.lt x (by simpa using hx)
 have hold : ∀ x ∈ p, (fun b => decide (b < W.heap.size)) x.block = true := fun x hx => by simpa using hlt x hx
 have hfn2 : s.fn H (ds ++ []) = { results := [.lit (.bool true)], args := ds } := by rw [List.append_nil, hs ds hlen]
 refine ⟨ds, [], p ++ [], [], p, [], hW', ?_, ?_, ?_, World.keptBut_mono (fun x hx => ⟨hx, .inr (.inl (by simpa using hx))⟩) (hbel.frame (· ∈ p ++ [])), ?_⟩
 ·rw [hfn2, hres]
  exact trodAll_mk1 (shut_bool htb true)
 ·rw [hfn2]
  exact args_stay hl hbel hA hlt hT
 ·rw [hfn2, hv]; rfl
 ·intro h0; cases h0
end Pm
namespace Pm
abbrev mnrI {α : Type} (i k : Nat) (m : List (List α)) : List (List α) := (m.eraseIdx i).map fun r => r.eraseIdx k
def dC : Nat → List (List Int) → Int
 | 0, _ => 1
 | n + 1, A => (List.range (n + 1)).foldl (fun d i => if i % 2 = 0 then d + nth (nth A i) 0 * dC n (mnrI i 0 A) else d - nth (nth A i) 0 * dC n (mnrI i 0 A)) 0
def dR : Nat → List (List Int) → Int
 | 0, _ => 1
 | n + 1, A => (List.range (n + 1)).foldl (fun d k => d + if k % 2 = 1 then -(nth (nth A 0) k * dR n (mnrI 0 k A)) else nth (nth A 0) k * dR n (mnrI 0 k A)) 0
def D2 (a b c d : Int) : Int := a * d - b * c
def D3 (a b c d e f g h i : Int) : Int := a * (e * i - f * h) - b * (d * i - f * g) + c * (d * h - e * g)
def D4 (a b c d e f g h i j k l m n o p : Int) : Int := a * D3 f g h j k l n o p - b * D3 e g h i k l m o p + c * D3 e f h i j l m n p - d * D3 e f g i j k m n o
theorem dC1 (a : Int) : dC 1 [[a]] = a := by simp [dC, nth, List.range, List.range.loop]
theorem dC2 (a b c d : Int) : dC 2 [[a, b], [c, d]] = D2 a b c d := by simp [mnrI, dC, dC1, nth, List.range, List.range.loop, D2]; grind
theorem dC3 (a b c d e f g h i : Int) : dC 3 [[a, b, c], [d, e, f], [g, h, i]] = D3 a b c d e f g h i := by
 rw [dC]; simp [mnrI, dC2, nth, List.range, List.range.loop, D2, D3]; grind
theorem dC4 (a b c d e f g h i j k l m n o p : Int) : dC 4 [[a, b, c, d], [e, f, g, h], [i, j, k, l], [m, n, o, p]] = D4 a b c d e f g h i j k l m n o p := by
 rw [dC]; simp [mnrI, dC3, nth, List.range, List.range.loop, D3, D4]; grind
theorem dR1 (a : Int) : dR 1 [[a]] = a := by simp [dR, nth, List.range, List.range.loop]
theorem dR2 (a b c d : Int) : dR 2 [[a, b], [c, d]] = D2 a b c d := by simp [mnrI, dR, dR1, nth, List.range, List.range.loop, D2]; grind
theorem dR3 (a b c d e f g h i : Int) : dR 3 [[a, b, c], [d, e, f], [g, h, i]] = D3 a b c d e f g h i := by
 rw [dR]; simp [mnrI, dR2, nth, List.range, List.range.loop, D2, D3]; grind
theorem dR4 (a b c d e f g h i j k l m n o p : Int) : dR 4 [[a, b, c, d], [e, f, g, h], [i, j, k, l], [m, n, o, p]] = D4 a b c d e f g h i j k l m n o p := by
 rw [dR]; simp [mnrI, dR3, nth, List.range, List.range.loop, D3, D4]; grind
def Sq (n : Nat) (A : List (List Int)) : Prop := A.length = n ∧ ∀ r ∈ A, r.length = n
theorem len1 {α : Type} {l : List α} (h : l.length = 1) : ∃ a, l = [a] := match l, h with | [a], _ => ⟨a, rfl⟩
theorem len2 {α : Type} {l : List α} (h : l.length = 2) : ∃ a b, l = [a, b] := match l, h with | [a, b], _ => ⟨a, b, rfl⟩
theorem len3 {α : Type} {l : List α} (h : l.length = 3) : ∃ a b c, l = [a, b, c] := match l, h with | [a, b, c], _ => ⟨a, b, c, rfl⟩
theorem len4 {α : Type} {l : List α} (h : l.length = 4) : ∃ a b c d, l = [a, b, c, d] := match l, h with | [a, b, c, d], _ => ⟨a, b, c, d, rfl⟩
theorem Sq.one {A : List (List Int)} (h : Sq 1 A) : ∃ a, A = [[a]] := by
 obtain ⟨x, rfl⟩ := len1 h.1
 obtain ⟨a, rfl⟩ := len1 (h.2 x (by simp))
 exact ⟨a, rfl⟩
theorem Sq.two {A : List (List Int)} (h : Sq 2 A) : ∃ a b c d, A = [[a, b], [c, d]] := by
 obtain ⟨x, y, rfl⟩ := len2 h.1
 obtain ⟨a, b, rfl⟩ := len2 (h.2 x (by simp))
 obtain ⟨c, d, rfl⟩ := len2 (h.2 y (by simp))
 exact ⟨a, b, c, d, rfl⟩
theorem Sq.three {A : List (List Int)} (h : Sq 3 A) : ∃ a b c d e f g h i, A = [[a, b, c], [d, e, f], [g, h, i]] := by
 obtain ⟨x, y, z, rfl⟩ := len3 h.1
 obtain ⟨a, b, c, rfl⟩ := len3 (h.2 x (by simp))
 obtain ⟨d, e, f, rfl⟩ := len3 (h.2 y (by simp))
 obtain ⟨g, i, j, rfl⟩ := len3 (h.2 z (by simp))
 exact ⟨_, _, _, _, _, _, _, _, _, rfl⟩
theorem Sq.four {A : List (List Int)} (h : Sq 4 A) : ∃ a b c d e f g h i j k l m n o p, A = [[a, b, c, d], [e, f, g, h], [i, j, k, l], [m, n, o, p]] := by
 obtain ⟨x, y, z, w, rfl⟩ := len4 h.1
 obtain ⟨_, _, _, _, rfl⟩ := len4 (h.2 x (by simp))
 obtain ⟨_, _, _, _, rfl⟩ := len4 (h.2 y (by simp))
 obtain ⟨_, _, _, _, rfl⟩ := len4 (h.2 z (by simp))
 obtain ⟨_, _, _, _, rfl⟩ := len4 (h.2 w (by simp))
 exact ⟨_, _, _, _, _, _, _, _, _, _, _, _, _, _, _, _, rfl⟩
theorem dC_dR {n : Nat} {A : List (List Int)} (h : Sq n A) (hn : n ≤ 4) : dC n A = dR n A := by
 match n, hn with
 | 0, _ => rfl
 | 1, _ => obtain ⟨_, rfl⟩ := h.one; rw [dC1, dR1]
 | 2, _ => obtain ⟨_, _, _, _, rfl⟩ := h.two; rw [dC2, dR2]
 | 3, _ => obtain ⟨_, _, _, _, _, _, _, _, _, rfl⟩ := h.three; rw [dC3, dR3]
 | 4, _ => obtain ⟨_, _, _, _, _, _, _, _, _, _, _, _, _, _, _, _, rfl⟩ := h.four; rw [dC4, dR4]
theorem lt2 {i : Nat} (h : i < 2) : i = 0 ∨ i = 1 := by omega
theorem lt3 {i : Nat} (h : i < 3) : i = 0 ∨ i = 1 ∨ i = 2 := by omega
theorem lt4 {i : Nat} (h : i < 4) : i = 0 ∨ i = 1 ∨ i = 2 ∨ i = 3 := by omega
theorem dC_swap {n : Nat} {A : List (List Int)} (h : Sq n A) (hn : n ≤ 4) {i k : Nat} (hi : i < n) (hk : k < n) (hik : i ≠ k) : dC n ((A.set i (nth A k)).set k (nth A i)) = - dC n A := by
 match n, hn with
 | 0, _ => omega
 | 1, _ => omega
 | 2, _ =>
  obtain ⟨_, _, _, _, rfl⟩ := h.two
  rcases lt2 hi with rfl | rfl <;> rcases lt2 hk with rfl | rfl <;> first | exact absurd rfl hik | (simp [nth, dC2, D2]; grind)
 | 3, _ =>
  obtain ⟨_, _, _, _, _, _, _, _, _, rfl⟩ := h.three
  rcases lt3 hi with rfl | rfl | rfl <;> rcases lt3 hk with rfl | rfl | rfl <;> first | exact absurd rfl hik | (simp [nth, dC3, D3]; grind)
 | 4, _ =>
  obtain ⟨_, _, _, _, _, _, _, _, _, _, _, _, _, _, _, _, rfl⟩ := h.four
  rcases lt4 hi with rfl | rfl | rfl | rfl <;> rcases lt4 hk with rfl | rfl | rfl | rfl <;> first | exact absurd rfl hik | (simp [nth, dC4, D4, D3]; grind)
theorem dC_same {n : Nat} {A : List (List Int)} (h : Sq n A) (hn : n ≤ 4) {i k : Nat} (hi : i < n) (hk : k < n) (hik : i ≠ k) : dC n (A.set i (nth A k)) = 0 := by
 match n, hn with
 | 0, _ => omega
 | 1, _ => omega
 | 2, _ =>
  obtain ⟨_, _, _, _, rfl⟩ := h.two
  rcases lt2 hi with rfl | rfl <;> rcases lt2 hk with rfl | rfl <;> first | exact absurd rfl hik | (simp [nth, dC2, D2]; try grind)
 | 3, _ =>
  obtain ⟨_, _, _, _, _, _, _, _, _, rfl⟩ := h.three
  rcases lt3 hi with rfl | rfl | rfl <;> rcases lt3 hk with rfl | rfl | rfl <;> first | exact absurd rfl hik | (simp [nth, dC3, D3]; try grind)
 | 4, _ =>
  obtain ⟨_, _, _, _, _, _, _, _, _, _, _, _, _, _, _, _, rfl⟩ := h.four
  rcases lt4 hi with rfl | rfl | rfl | rfl <;> rcases lt4 hk with rfl | rfl | rfl | rfl <;> first | exact absurd rfl hik | (simp [nth, dC4, D4, D3]; try grind)
theorem dC_addrow {n : Nat} {A : List (List Int)} (h : Sq n A) (hn : n ≤ 4) {i k : Nat} (hi : i < n) (hk : k < n) (hik : i ≠ k) (c : Int) : dC n (A.set i ((List.range n).map fun j => nth (nth A i) j + c * nth (nth A k) j)) = dC n A := by
 match n, hn with
 | 0, _ => omega
 | 1, _ => omega
 | 2, _ =>
  obtain ⟨_, _, _, _, rfl⟩ := h.two
  rcases lt2 hi with rfl | rfl <;> rcases lt2 hk with rfl | rfl <;> first | exact absurd rfl hik | (simp [nth, dC2, D2, List.range, List.range.loop]; grind)
 | 3, _ =>
  obtain ⟨_, _, _, _, _, _, _, _, _, rfl⟩ := h.three
  rcases lt3 hi with rfl | rfl | rfl <;> rcases lt3 hk with rfl | rfl | rfl <;> first | exact absurd rfl hik | (simp [nth, dC3, D3, List.range, List.range.loop]; grind)
 | 4, _ =>
  obtain ⟨_, _, _, _, _, _, _, _, _, _, _, _, _, _, _, _, rfl⟩ := h.four
  rcases lt4 hi with rfl | rfl | rfl | rfl <;> rcases lt4 hk with rfl | rfl | rfl | rfl <;> first | exact absurd rfl hik | (simp [nth, dC4, D4, D3, List.range, List.range.loop]; grind)
theorem dC_turn {n : Nat} {A : List (List Int)} (h : Sq n A) (hn : n ≤ 4) : dC n ((List.range n).map fun k => (List.range n).map fun j => nth (nth A j) k) = dC n A := by
 match n, hn with
 | 0, _ => rfl
 | 1, _ => obtain ⟨_, rfl⟩ := h.one; simp [nth, List.range, List.range.loop]
 | 2, _ => obtain ⟨_, _, _, _, rfl⟩ := h.two; simp [nth, dC2, D2, List.range, List.range.loop]; grind
 | 3, _ => obtain ⟨_, _, _, _, _, _, _, _, _, rfl⟩ := h.three; simp [nth, dC3, D3, List.range, List.range.loop]; grind
 | 4, _ => obtain ⟨_, _, _, _, _, _, _, _, _, _, _, _, _, _, _, _, rfl⟩ := h.four; simp [nth, dC4, D4, D3, List.range, List.range.loop]; grind
theorem dC_scale {n : Nat} {A : List (List Int)} (h : Sq n A) (hn : n ≤ 4) {i : Nat} (hi : i < n) (c : Int) : dC n (A.set i ((List.range n).map fun j => c * nth (nth A i) j)) = c * dC n A := by
 match n, hn with
 | 0, _ => omega
 | 1, _ =>
  obtain ⟨_, rfl⟩ := h.one
  obtain rfl : i = 0 := by omega
  simp [nth, dC1, List.range, List.range.loop]
 | 2, _ =>
  obtain ⟨_, _, _, _, rfl⟩ := h.two
  rcases lt2 hi with rfl | rfl <;> (simp [nth, dC2, D2, List.range, List.range.loop]; grind)
 | 3, _ =>
  obtain ⟨_, _, _, _, _, _, _, _, _, rfl⟩ := h.three
  rcases lt3 hi with rfl | rfl | rfl <;> (simp [nth, dC3, D3, List.range, List.range.loop]; grind)
 | 4, _ =>
  obtain ⟨_, _, _, _, _, _, _, _, _, _, _, _, _, _, _, _, rfl⟩ := h.four
  rcases lt4 hi with rfl | rfl | rfl | rfl <;> (simp [nth, dC4, D4, D3, List.range, List.range.loop]; grind)
theorem dC_expand {n : Nat} {A : List (List Int)} (h : Sq n A) (hn : n ≤ 4) {i : Nat} (hi : i < n) : (List.range n).foldl (fun s k => s + if (i + k) % 2 = 1 then -(dC (n - 1) (mnrI i k A) * nth (nth A i) k) else dC (n - 1) (mnrI i k A) * nth (nth A i) k) 0 = dC n A := by
 match n, hn with
 | 0, _ => omega
 | 1, _ =>
  obtain ⟨_, rfl⟩ := h.one
  obtain rfl : i = 0 := by omega
  simp [mnrI, nth, dC1, dC, List.range, List.range.loop]
 | 2, _ =>
  obtain ⟨_, _, _, _, rfl⟩ := h.two
  rcases lt2 hi with rfl | rfl <;> (simp [mnrI, nth, dC1, dC2, D2, List.range, List.range.loop]; grind)
 | 3, _ =>
  obtain ⟨_, _, _, _, _, _, _, _, _, rfl⟩ := h.three
  rcases lt3 hi with rfl | rfl | rfl <;> (simp [mnrI, nth, dC2, dC3, D2, D3, List.range, List.range.loop]; grind)
 | 4, _ =>
  obtain ⟨_, _, _, _, _, _, _, _, _, _, _, _, _, _, _, _, rfl⟩ := h.four
  rcases lt4 hi with rfl | rfl | rfl | rfl <;> (simp [mnrI, nth, dC3, dC4, D4, D3, List.range, List.range.loop]; grind)
end Pm
namespace Pm
open Go Go.RowKit
def RetO (P : Program) (f : FuncId) (args : List PV) (e : TypeId) (n : Nat) (els : List (List PV)) : Prop :=
 (∃ fn c, P.funcs[f]? = some fn ∧ fn.body = some c ∧ (fn.name == "runtime.NumGoroutine") = false) ∧
 ∀ (w : World) (S : Stab) (vs : List Value), (∀ b o, S b o → b < w.heap.size) → RepList S w args vs →
  Calls P f vs.toArray w fun x w' => ∃ (v : Value) (xs : List Value) (S' : Stab), x = .returned v ∧ Below w.heap.size w w' ∧ (∀ b o, S b o → S' b o) ∧ (∀ b o, S' b o → S b o ∨ (w.heap.size ≤ b ∧ b < w'.heap.size)) ∧
   w'.ownsRow w.heap.size e n v els.length xs ∧ All2 (Rep S' w') els.flatten xs ∧ (∀ y ∈ xs, y.oneCell' = true) ∧ (∀ x ∈ els, x.length = n) ∧ 0 < n ∧ (∀ g o, v.ownBlock = some g → ¬ S' g o)
section
variable {E : Env} {w0 : World} {S0 : Stab} {c : Cx}
theorem results_run (hI : Inv w0 S0 c) {clk : Nat} {fn : Func} {a : Act} {f : Nat → PV} (hf : ∀ s, RepV c (f s) (a.tmps.getD s undef)) {K : List PV → Prop} (hp : praws E ⟨f, c.rows, clk⟩ fn.results.toList K) :
  ∃ vs us, K vs ∧ All2 (RepV c) vs us ∧ (results fn a.tmps).run E.P c.w = .ok (if h : us.toArray.size = 1 then us.toArray[0] else .tuple us.toArray) c.w := by
 have key : ∀ g : ResultVar → Sem Value, (∀ t, g (.tmp t) = pure (a.tmps.getD t undef)) → (∀ x t, g (.cell x t) = do loadVar t (← asAddr (a.tmps.getD x undef))) →
   ∃ vs us, K vs ∧ All2 (RepV c) vs us ∧ (do let vs ← fn.results.mapM g; pure (if h : vs.size = 1 then vs[0] else .tuple vs) : Sem Value).run E.P c.w = .ok (if h : us.toArray.size = 1 then us.toArray[0] else .tuple us.toArray) c.w := by
  intro g hg1 hg2
  obtain ⟨vs, us, g1, g4, g5⟩ := praws_run hI hf hg1 hg2 _ _ hp
  refine ⟨vs, us, g1, g4, ?_⟩
  have : (fn.results.mapM g).run E.P c.w = .ok us.toArray c.w := by
   rw [Array.mapM_eq_mapM_toList]
   simp [g5]
  rw [Sem.run_bind, this, Result.andThen_ok, Sem.run_pure]
 unfold results
 exact key _ (fun _ => rfl) (fun _ _ => rfl)
theorem result_one (hI : Inv w0 S0 c) {fn : Func} {t : Tmp} (hres : fn.results.toList = [.tmp t]) {a : Act} {f : Nat → PV} (hf : ∀ s, RepV c (f s) (a.tmps.getD s undef)) :
  ∃ u, RepV c (f t) u ∧ (results fn a.tmps).run E.P c.w = .ok u c.w := by
 obtain ⟨vs, us, h1, h2, h3⟩ := results_run (E := E) (K := fun vs => vs = [f t]) (clk := 0) hI (fn := fn) hf (by rw [hres]; rfl)
 subst h1
 match us, h2 with
 | [u], h2 => exact ⟨u, h2.1, by simpa using h3⟩
 | [], h2 => exact h2.elim
 | _ :: _ :: _, h2 => exact h2.2.elim
def pfinG (t : Tmp) (R : PV → Rows → Nat → Prop) : PX → PS → Prop
 | .normal, σ => R (σ.f t) σ.rows σ.clock
 | .ret, σ => R (σ.f t) σ.rows σ.clock
 | .exit _, _ => False
def pinitR (args : List PV) (rows : Rows) (clk : Nat) : PS := ⟨fun s => args.getD s .undef, rows, clk⟩
theorem init_rep {args : List PV} {vs : List Value} {m : Nat} (h : All2 (RepV c) args vs) (s : Nat) : RepV c (args.getD s .undef) ((vs.toArray ++ Array.replicate m undef).getD s undef) := by
 have hvl := h.length
 by_cases hs : s < args.length
 ·obtain ⟨u, hu, hr⟩ := h.get (List.getElem?_eq_getElem hs)
  have e1 : args.getD s .undef = args[s] := by simp [List.getD, List.getElem?_eq_getElem hs]
  have e2 : (vs.toArray ++ Array.replicate m undef).getD s undef = u := by
   have : s < vs.length := by omega
   simp [this] at hu ⊢
   simp [Array.getElem?_append, this, hu]
  rw [e1, e2]; exact hr
 ·have e1 : args.getD s .undef = .undef := by simp [List.getD, List.getElem?_eq_none (show args.length ≤ s by omega)]
  rw [e1]
  simp [RepV, RepC]
theorem retG_of_W {fid : FuncId} {fn : Func} {code : Code} (tl : Nat → Nat) {args : List PV} {rows : Rows} {clk : Nat} {R : PV → Rows → Nat → Prop} {t : Tmp} (h1 : E.P.funcs[fid]? = some fn) (h2 : fn.body = some code) (h3 : (fn.name == "runtime.NumGoroutine") = false)
  (hok : codeOK fn.ntmps tl code = true) (hargs : args.length ≤ fn.ntmps) (hres : fn.results.toList = [.tmp t]) (h : W E fn.ntmps tl code (pfinG t R) (pinitR args rows clk)) : RetG E.P fid args rows clk R := by
 refine ⟨⟨fn, code, h1, h2, h3⟩, fun w0 S0 c vs G hI hr hcl hrep hG => ?_⟩
 refine calls_of_wp h1 h2 ?_
 have hvl := hrep.length
 have hR0 : Rel w0 S0 fn.ntmps G (pinitR args rows clk) { tmps := vs.toArray ++ Array.replicate (fn.ntmps - vs.toArray.size) undef, defers := [] } c.w :=
  ⟨⟨c, rfl, hr, hcl, hI, fun s => init_rep hrep s, hG⟩, by simp; omega, rfl⟩
 refine h hok w0 S0 G _ _ _ hR0 ?_
 have fin : ∀ σ' a' w', R (σ'.f t) σ'.rows σ'.clock → Rel w0 S0 fn.ntmps G σ' a' w' → a'.defers = [] ∧ ∃ v, (results fn a'.tmps).run E.P w' = .ok v w' ∧
   ∃ v' c' r clk', Ending.returned v = .returned v' ∧ c'.w = w' ∧ Inv w0 S0 c' ∧ (∀ p ∈ G, RepV c' p.1 p.2) ∧ R r c'.rows clk' ∧ (∀ v, c'.used v → v < clk') ∧ RepV c' r v' := by
  rintro σ' a' w' hx ⟨⟨c', rfl, hr', hcl', hI', hf', hG'⟩, hn, hdef⟩
  obtain ⟨u, hu, hrun⟩ := result_one (E := E) hI' hres hf'
  exact ⟨hdef, u, hrun, u, c', _, σ'.clock, rfl, rfl, hI', hG', by rw [hr']; exact hx, hcl', hu⟩
 intro x σ' a' w' hx hR'
 cases x with
 | normal => exact fin σ' a' w' hx hR'
 | ret => exact fin σ' a' w' hx hR'
 | exit id => exact hx.elim
def pfinO (t : Tmp) (e : TypeId) (n : Nat) (els : List (List PV)) : PX → PS → Prop
 | .normal, σ => ∃ id ver, σ.f t = .own id ver 0 els.length ∧ σ.rows id = some ⟨ver, e, n, els⟩ ∧ ∀ x ∈ els, ∀ p ∈ x, pers1 p = true
 | .ret, σ => ∃ id ver, σ.f t = .own id ver 0 els.length ∧ σ.rows id = some ⟨ver, e, n, els⟩ ∧ ∀ x ∈ els, ∀ p ∈ x, pers1 p = true
 | .exit _, _ => False
theorem retO_of_W {fid : FuncId} {fn : Func} {code : Code} (tl : Nat → Nat) {args : List PV} {e : TypeId} {n : Nat} {els : List (List PV)} {t : Tmp} (h1 : E.P.funcs[fid]? = some fn) (h2 : fn.body = some code) (h3 : (fn.name == "runtime.NumGoroutine") = false)
  (hok : codeOK fn.ntmps tl code = true) (hargs : args.length ≤ fn.ntmps) (hres : fn.results.toList = [.tmp t]) (h : W E fn.ntmps tl code (pfinO t e n els) (pinit args)) : RetO E.P fid args e n els := by
 refine ⟨⟨fn, code, h1, h2, h3⟩, fun w S vs hS hrep => ?_⟩
 refine calls_of_wp h1 h2 ?_
 have hrep' := RepList_iff.1 hrep
 have hvl := hrep'.length
 let c0 : Cx := ⟨S, w, fun _ => .slice none 0 0, fun _ => none, fun _ => False⟩
 have hI0 : Inv w S c0 := ⟨Below.refl _ _, fun _ _ h => h, fun _ _ h => .inl h, hS, fun _ _ h => by simp [c0] at h, fun _ _ h => by simp [c0] at h, fun _ _ _ _ _ h => by simp [c0] at h⟩
 have hR0 : Rel w S fn.ntmps Gs.none (pinit args) { tmps := vs.toArray ++ Array.replicate (fn.ntmps - vs.toArray.size) undef, defers := [] } w :=
  ⟨⟨c0, rfl, rfl, fun _ h => h.elim, hI0, fun s => init_rep (c := c0) (hrep'.mono fun _ _ h => RepV.of_rep h) s, fun p hp => (Gs.not_none hp).elim⟩, by simp; omega, rfl⟩
 refine h hok w S Gs.none _ _ _ hR0 ?_
 have fin : ∀ (σ' : PS) a' w', (∃ id ver, σ'.f t = .own id ver 0 els.length ∧ σ'.rows id = some ⟨ver, e, n, els⟩ ∧ ∀ x ∈ els, ∀ p ∈ x, pers1 p = true) → Rel w S fn.ntmps Gs.none σ' a' w' → a'.defers = [] ∧ ∃ v, (results fn a'.tmps).run E.P w' = .ok v w' ∧
   ∃ (v' : Value) (xs : List Value) (S' : Stab), Ending.returned v = .returned v' ∧ Below w.heap.size w w' ∧ (∀ b o, S b o → S' b o) ∧ (∀ b o, S' b o → S b o ∨ (w.heap.size ≤ b ∧ b < w'.heap.size)) ∧
   w'.ownsRow w.heap.size e n v' els.length xs ∧ All2 (Rep S' w') els.flatten xs ∧ (∀ y ∈ xs, y.oneCell' = true) ∧ (∀ x ∈ els, x.length = n) ∧ 0 < n ∧ (∀ g o, v'.ownBlock = some g → ¬ S' g o) := by
  rintro σ' a' w' ⟨id, ver, e1, e2, e3⟩ ⟨⟨c, rfl, hr, hcl, hI, hf, _⟩, hn, hdef⟩
  obtain ⟨u, hu, hrun⟩ := result_one (E := E) hI hres hf
  rw [e1] at hu
  rw [← hr] at e2
  obtain ⟨⟨xs, g1, g2, g3⟩, g4, g5, g6⟩ := hI.row id _ e2
  simp only [RepV, RepC] at hu
  obtain ⟨_, hu⟩ := hu
  obtain ⟨_, hu⟩ := hu _ e2 rfl
  have hub : u = c.β id := by
   rcases hu with ⟨_, A, m, cap, h5, h6⟩ | ⟨h5, _⟩
   ·rcases g1.2 with ⟨h7, h8⟩ | ⟨g, cap', cur, h7, _⟩
    ·rw [h7] at h5; cases h5
     simp only at h8
     rw [h6, h7, h8]
    ·rw [h7] at h5; cases h5
     rw [h6, h7]
   ·omega
  refine ⟨hdef, u, hrun, u, xs, c.S, rfl, hI.below, hI.ext, hI.new, by rw [hub]; exact g1, ?_, g3, g4, g6, fun g o hg => g5 g o (by rw [← hub]; exact hg)⟩
  refine All2.of_get g2.length fun k p y hp hy => ?_
  obtain ⟨y', hy', hr'⟩ := g2.get hp
  rw [hy] at hy'; cases hy'
  have hmem := List.mem_of_getElem? hp
  obtain ⟨x, hx, hpx⟩ := List.mem_flatten.1 hmem
  exact hr'.rep (e3 x hx p hpx)
 intro x σ' a' w' hx hR'
 cases x with
 | normal => exact fin σ' a' w' hx hR'
 | ret => exact fin σ' a' w' hx hR'
 | exit id => exact hx.elim
theorem RetO.ret {P : Program} {f : FuncId} {args : List PV} {e : TypeId} {n : Nat} {els : List (List PV)} (h : RetO P f args e n els) {vals : List PV} {rows : Rows} {clk : Nat} (d : Nat) (ha : vals.map (pz rows) = args) (hpers : (vals.map (pz rows)).all pers = true) (hp : rowsPers rows (vals.flatMap idsV)) :
  RetG P f vals rows clk (fun r rows' clk' => r = .own d clk 0 els.length ∧ rows' = upd (frR rows (vals.flatMap idsV)) d (some ⟨clk, e, n, els⟩) ∧ clk' = clk + 1) := by
 obtain ⟨h0, hret⟩ := h
 refine ⟨h0, fun w0 S0 c vs G hI hrow hcl hargs hG => ?_⟩
 subst hrow
 generalize hids : vals.flatMap idsV = ids at *
 have hIf := hI.freeze ids
 have hlt : ∀ b o, frS c ids b o → b < c.w.heap.size := fun b o hb => hIf.lt (c := frC c ids) hb
 have hrep : RepList (frS c ids) c.w args vs := by
  rw [← ha]
  refine RepList_iff.2 (All2.of_get (by simp [hargs.length]) fun k p u hp' hu => ?_)
  simp at hp'
  obtain ⟨q, hq, rfl⟩ := hp'
  obtain ⟨u', g1, g2⟩ := hargs.get hq
  rw [hu] at g1; cases g1
  exact pz_rep hI hp g2 (fun id hid => by rw [← hids]; simp only [List.mem_flatMap]; exact ⟨q, List.mem_of_getElem? hq, hid⟩) (List.all_eq_true.1 hpers _ (by simp; exact ⟨q, List.mem_of_getElem? hq, rfl⟩))
 refine (hret c.w (frS c ids) vs hlt hrep).mono ?_
 rintro x w' ⟨v, xs, S', rfl, hb, g1, g2, g3, g4, g5, g6, g7, g8⟩
 obtain ⟨hI2, hA2⟩ := hIf.grow (c := frC c ids) hb g1 g2
 have hA1 := frC_adv c ids
 obtain ⟨hI3, hA3⟩ := hI2.set (w' := w') (ob := v.ownBlock) (id := d) (r' := ⟨clk, e, n, els⟩) (v' := v) (xs := xs) (World.grownBy.refl _ _)
  (fun g hg => by
   have hge := (g3.lt g hg).1
   refine ⟨by have := hI.below.size; omega, fun o => g8 g o hg, fun id' r hr _ hb' => ?_⟩
   obtain ⟨⟨ys, q1, _, _⟩, _⟩ := hIf.row id' r hr
   have := (q1.lt g hb').2
   simp only [frC] at this
   omega) ⟨g3.1, g3.2.imp id fun ⟨g, cap, cur, q1, q2, q3⟩ => ⟨g, cap, cur, q1, Nat.le_trans hI.below.size q2, q3⟩⟩ (g4.mono fun _ _ h => RepC.of_rep h) g5 g6 g7 (fun g hg => .inl hg) (fun hu => Nat.lt_irrefl _ (hcl _ hu))
 refine ⟨v, _, .own d clk 0 els.length, clk + 1, rfl, rfl, hI3, fun p hp' => ?_, ⟨rfl, rfl, rfl⟩, fun v hv => ?_, ?_⟩
 ·exact RepV.adv hA3 _ _ (RepV.adv hA2 _ _ (RepV.adv hA1 _ _ (hG p hp')))
 ·rcases hv with hv | hv
  ·have : v = clk := hv
   omega
  ·have := hcl v hv; omega
 ·rcases g3.2 with ⟨rfl, h8⟩ | ⟨g, cap', cur, rfl, _⟩
  ·have : els.length = 0 := h8
   rw [this]
   exact repV_new (r := ⟨clk, e, n, els⟩) (A := none) (cap := 0) (by simp [upd]) (by simpa using h8) (Or.inl rfl) (by simp [upd])
  ·exact repV_new (r := ⟨clk, e, n, els⟩) (by simp [upd]) rfl (Or.inl rfl) (by simp [upd])
end
theorem callO {P : Program} {g : FuncId} {vals : List PV} {rows : Rows} {clk : Nat} {K : PV → Rows → Nat → Prop} {args : List PV} {e : TypeId} {n : Nat} {els : List (List PV)} (h : RetO P g args e n els) (d : Nat) (ha : vals.map (pz rows) = args) (hpers : (vals.map (pz rows)).all pers = true)
  (hp : rowsPers rows (vals.flatMap idsV)) (hK : go (K (.own d clk 0 els.length) (upd (frR rows (vals.flatMap idsV)) d (some ⟨clk, e, n, els⟩)) (clk + 1))) : stepM P g vals rows clk K :=
 ⟨_, h.ret d ha hpers hp, by rintro r rows' clk' ⟨rfl, rfl, rfl⟩; exact hK⟩
theorem retO_of_Wf {E : Env} {fid : FuncId} {fn : Func} {code : Code} (tl : Nat → Nat) {args : List PV} {e : TypeId} {n : Nat} {els : List (List PV)} {t : Tmp} (l : List (Nat × PV)) (h1 : E.P.funcs[fid]? = some fn) (h2 : fn.body = some code) (h3 : (fn.name == "runtime.NumGoroutine") = false)
  (hok : codeOK fn.ntmps tl code = true) (hargs : args.length ≤ fn.ntmps) (hres : fn.results.toList = [.tmp t]) (hl : ∀ p ∈ l, args.getD p.1 .undef = p.2) (h : W E fn.ntmps tl code (pfinO t e n els) ⟨fa l, fun _ => none, 0⟩) : RetO E.P fid args e n els :=
 retO_of_W tl h1 h2 h3 hok hargs hres (W.ghf l (by simpa using hl) h)
theorem retG_of_Wf {E : Env} {fid : FuncId} {fn : Func} {code : Code} (tl : Nat → Nat) {args : List PV} {rows : Rows} {clk : Nat} {R : PV → Rows → Nat → Prop} {t : Tmp} (l : List (Nat × PV)) (h1 : E.P.funcs[fid]? = some fn) (h2 : fn.body = some code) (h3 : (fn.name == "runtime.NumGoroutine") = false)
  (hok : codeOK fn.ntmps tl code = true) (hargs : args.length ≤ fn.ntmps) (hres : fn.results.toList = [.tmp t]) (hl : ∀ p ∈ l, args.getD p.1 .undef = p.2) (h : W E fn.ntmps tl code (pfinG t R) ⟨fa l, rows, clk⟩) : RetG E.P fid args rows clk R :=
 retG_of_W tl h1 h2 h3 hok hargs hres (W.ghf l (by simpa using hl) h)
def ycopyK (t : TI) (rows : Rows) (x y : PV) (K : PV → Rows → Prop) : Prop :=
 match t, x with
 | .slice _ n _ _, .own id ver off len => n = 1 ∧ ∃ r, rows id = some r ∧ r.ver = ver ∧ r.size = n ∧ off + len ≤ r.els.length ∧ 0 < len ∧ ∃ l, ysrc rows y l ∧ (∀ e ∈ l, e.length = n) ∧
   K (.int .i64 (min l.length len)) (upd rows id (some { r with els := r.els.take off ++ l.take len ++ r.els.drop (off + min l.length len) }))
 | _, _ => False
@[simp] theorem go_copy {E : Env} {ops os : List Oper} {K : PS → Prop} {f : Nat → PV} {rows : Rows} {clk : Nat} {d : Option Tmp} {ty : TypeId} {pos : String} {af : Array Edge} {x y : Operand} {t t2 : TypeId} :
  go (pops E ops (⟨d, .call { callee := .builtin .copy, args := ⟨[x, y]⟩, argTypes := ⟨[t, t2]⟩ }, ty, pos, af, none⟩ :: os) K ⟨f, rows, clk⟩) = ycopyK (E.ty t) rows (evf f x) (evf f y) fun v rows => pops E ops os K ⟨put f d v, rows, clk⟩ := by
 simp only [go, pops, pfree, ycopyK]
 generalize E.ty t = T
 generalize evf f x = X
 cases T <;> cases X <;> rfl
@[congr] theorem ycopyK_congr {t t' : TI} {rows rows' : Rows} {x x' y y' : PV} {K : PV → Rows → Prop} (h1 : t = t') (h2 : rows = rows') (h3 : x = x') (h4 : y = y') : ycopyK t rows x y K = ycopyK t' rows' x' y' K := by rw [h1, h2, h3, h4]
theorem copyK {e e' : TypeId} {b : Nat} {z : List PV} {rows : Rows} {id ver off len : Nat} {y : PV} {K : PV → Rows → Prop} {els l : List (List PV)} (hr : rows id = some ⟨ver, e', 1, els⟩) (hl : off + len ≤ els.length) (h0 : 0 < len) (hy : ysrc rows y l) (h1 : ∀ e ∈ l, e.length = 1)
  (hK : go (K (.int .i64 (min l.length len)) (upd rows id (some ⟨ver, e', 1, els.take off ++ l.take len ++ els.drop (off + min l.length len)⟩)))) : ycopyK (.slice e 1 b z) rows (.own id ver off len) y K :=
 ⟨rfl, _, hr, rfl, rfl, hl, h0, l, hy, h1, hK⟩
theorem stepTxt {c B : Prop} (h : c) (hB : go B) : stepA c B := ⟨h, hB⟩
end Pm
