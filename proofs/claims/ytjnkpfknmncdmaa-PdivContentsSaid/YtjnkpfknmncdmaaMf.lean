import Derived.Test.YtjnkpfknmncdmaaMe
import Derived.ProofKit
import Derived.JoinedOf
import Derived.SizedLaws
import Derived.Carry
import Derived.Deep.Slices
set_option linter.unusedSimpArgs false
set_option linter.unusedVariables false
namespace Pm
open Go Go.RowKit Go.ChangeShapes Go.WideShapes Go.Deep

/-! WHAT COMES IN: each argument, as it reads, as a pure value. -/
def Low (w : World) : Stab := fun b _ => b < w.heap.size
theorem cell_low {w : World} {a : Addr} {v : Value} (h : w.cell? a = some v) : a.block < w.heap.size ∧ a.spot = none := by
  unfold World.cell? at h
  split at h
  · rename_i hb
    refine ⟨?_, ?_⟩
    · exact (Array.getElem?_eq_some_iff.1 hb).1
    · split at h
      · cases h
      · rename_i hs; simpa using hs
  · cases h

/-- A type whose values read as pure values, cell by cell. -/
def Opn (P : Program) (t : TypeId) (R : List PV → Prop) : Prop :=
  ∀ (H : Type) (enc : TypeId × Value → H) (w : World) (fuel : Nat) (cs : List Value) (x : DataW H × List MemPlace),
    DataW.trod enc P w 0 (fun _ => true) true fuel t cs = some x → ∃ ps, R ps ∧ RepList (Low w) w ps cs ∧ ∀ v ∈ cs, v.oneCell' = true

theorem RepList.length {S : Stab} {w : World} : ∀ {ps : List PV} {vs : List Value}, RepList S w ps vs → ps.length = vs.length
  | [], vs, h => by simp only [RepList] at h; simp [h]
  | p :: ps, vs, h => by
    simp only [RepList] at h
    obtain ⟨v, vs', rfl, _, h2⟩ := h
    simp [RepList.length h2]
theorem RepList.append {S : Stab} {w : World} : ∀ {ps qs : List PV} {vs us : List Value}, RepList S w ps vs → RepList S w qs us → RepList S w (ps ++ qs) (vs ++ us)
  | [], qs, vs, us, h, h' => by simp only [RepList] at h; subst h; simpa using h'
  | p :: ps, qs, vs, us, h, h' => by
    simp only [RepList] at h
    obtain ⟨v, vs', rfl, h1, h2⟩ := h
    simp only [List.cons_append, RepList]
    exact ⟨v, vs' ++ us, rfl, h1, RepList.append h2 h'⟩

theorem Opn.int {P : Program} {t : TypeId} (k : IntKind) (ht : P.underlying t = some (.int k)) : Opn P t (fun ps => ∃ n, ps = [.int k n] ∧ k.min ≤ n ∧ n ≤ k.max) := by
  intro H enc w fuel cs x h
  obtain ⟨n, rfl, _, hw⟩ := DataW.trod_int ht h
  simp only [Lit.wf, Bool.and_eq_true, decide_eq_true_eq] at hw
  exact ⟨[.int k n], ⟨n, rfl, hw⟩, ⟨_, _, rfl, by simp [Rep], rfl⟩, by simp [Value.oneCell']⟩
theorem Opn.bool {P : Program} {t : TypeId} (ht : P.underlying t = some .bool) : Opn P t (fun ps => ∃ b, ps = [.bool b]) := by
  intro H enc w fuel cs x h
  obtain ⟨n, rfl, _⟩ := DataW.trod_bool ht h
  exact ⟨[.bool n], ⟨n, rfl⟩, ⟨_, _, rfl, by simp [Rep], rfl⟩, by simp [Value.oneCell']⟩

theorem repCells_low {w : World} {b : Nat} : ∀ {ps : List PV} {vs : List Value} {o : Nat}, RepList (Low w) w ps vs → (∀ v ∈ vs, v.oneCell' = true) → (∀ i, i < vs.length → w.cell? ⟨b, o + i, none⟩ = vs[i]?) → RepCells (Low w) w b o ps
  | [], _, _, _, _, _ => by simp [RepCells]
  | p :: ps, vs, o, h, h1, h2 => by
    simp only [RepList] at h
    obtain ⟨v, vs', rfl, h3, h4⟩ := h
    have hc : w.cell? ⟨b, o, none⟩ = some v := by simpa using h2 0 (by simp)
    simp only [RepCells]
    refine ⟨⟨v, hc, (cell_low hc).1, h1 v (by simp), h3⟩, repCells_low h4 (fun u hu => h1 u (by simp [hu])) fun i hi => ?_⟩
    have := h2 (i + 1) (by simpa using hi)
    simpa [Nat.add_assoc, Nat.add_comm 1] using this
theorem repEls_low {w : World} {b c : Nat} {f : Nat → List PV} : ∀ (n o k : Nat), (∀ i, k ≤ i → i < k + n → RepCells (Low w) w b (o + (i - k) * c) (f i) ∧ (f i).length = c) → RepEls (Low w) w b o ((List.range' k n).map f)
  | 0, o, k, _ => by simp [RepEls]
  | n + 1, o, k, h => by
    obtain ⟨h1, h2⟩ := h k (Nat.le_refl _) (by omega)
    simp only [List.range'_succ, List.map_cons, RepEls]
    refine ⟨by simpa using h1, repEls_low (c := c) n _ _ fun i hi hi2 => ?_⟩
    obtain ⟨h3, h4⟩ := h i (by omega) (by omega)
    refine ⟨?_, h4⟩
    rw [h2]
    have e : o + c + (i - (k + 1)) * c = o + (i - k) * c := by
      have : i - k = (i - (k + 1)) + 1 := by omega
      rw [this, Nat.add_mul]; omega
    rw [e]; exact h3

theorem Opn.slice {P : Program} {t e : TypeId} {R : List PV → Prop} (ht : P.underlying t = some (.slice e)) (hc0 : 0 < P.cellsOf e) (he : Opn P e R) : Opn P t (fun ps => ∃ l : List (List PV), ps = [.sl l] ∧ (∀ x ∈ l, R x) ∧ l.length ≤ maxLen) := by
  intro H enc w fuel cs x h
  rcases open_slice ht h with ⟨rfl, _⟩ | ⟨a, len, cap, m, n, D, Pl, rfl, _, hl, hm, hmm, _, hx⟩
  · refine ⟨[.sl []], ⟨[], rfl, by simp, by simp⟩, ⟨_, _, rfl, ?_, rfl⟩, by simp [Value.oneCell']⟩
    simp only [Rep]
    exact ⟨none, 0, rfl, by simp, by simp, .inl trivial⟩
  · have hlm : len ≤ m := by rw [hmm]; split <;> omega
    have each : ∀ i, i < len → ∃ ps : List PV, R ps ∧ ps.length = P.cellsOf e ∧ ∃ cs', w.cells? 0 (a.add (i * P.cellsOf e)) (P.cellsOf e) = some cs' ∧ RepList (Low w) w ps cs' ∧ ∀ v ∈ cs', v.oneCell' = true := by
      intro i hi
      obtain ⟨cs', h1, h2⟩ := hx i (by omega)
      obtain ⟨ps, h3, h4, h5⟩ := he H enc w _ _ _ h2
      refine ⟨ps, h3, ?_, cs', h1, h4, h5⟩
      rw [h4.length]; exact (World.cells?_some h1).2.1
    obtain ⟨f, hf⟩ := choose_lt each
    refine ⟨[.sl ((List.range' 0 len).map f)], ⟨_, rfl, ?_, by simp; omega⟩, ⟨_, _, rfl, ?_, rfl⟩, by simp [Value.oneCell']⟩
    · intro y hy
      simp only [List.mem_map, List.mem_range'_1] at hy
      obtain ⟨i, hi, rfl⟩ := hy
      exact (hf i (by omega)).1
    · simp only [Rep]
      refine ⟨some a, cap, by simp, by simpa using hl, hm, ?_⟩
      by_cases h0 : len = 0
      · left; simp [h0]
      right
      have hsp : a.spot = none := by
        obtain ⟨_, _, cs', h3, _, _⟩ := hf 0 (by omega)
        obtain ⟨_, h4, h5⟩ := World.cells?_some h3
        have h6 := h5 0 (by omega)
        rw [List.getElem?_eq_getElem (by omega)] at h6
        have h7 := (cell_low h6).2
        simpa [Addr.add] using h7
      obtain ⟨b, o, sp⟩ := a
      simp only at hsp
      subst hsp
      refine ⟨b, o, rfl, repEls_low (c := P.cellsOf e) len o 0 fun i _ hi => ?_⟩
      obtain ⟨_, h2, cs', h3, h4, h5⟩ := hf i (by omega)
      obtain ⟨_, h6, h7⟩ := World.cells?_some h3
      refine ⟨repCells_low h4 h5 fun j hj => ?_, h2⟩
      rw [← h7 j (by omega), add_plain, add_plain]
      simp

/-- The fields of a struct lie one behind another. -/
def Fits (P : Program) : Nat → List Field → List (List PV → Prop) → Nat → Prop
  | o, [], [], n => o = n
  | o, f :: fs, R :: Rs, n => f.offset = o ∧ Opn P f.type R ∧ Fits P (o + P.cellsOf f.type) fs Rs n
  | _, _, _, _ => False
def Each : List (List PV → Prop) → List PV → Prop
  | [], ps => ps = []
  | R :: Rs, ps => ∃ a b, ps = a ++ b ∧ R a ∧ Each Rs b
theorem fits_rep {P : Program} {H : Type} {enc : TypeId × Value → H} {w : World} {m n : Nat} : ∀ {fs : List Field} {Rs : List (List PV → Prop)} {o : Nat} {cs : List Value} {xs : List (DataW H × List MemPlace)}, Fits P o fs Rs n → cs.length = n → xs.length = fs.length →
    (∀ (i : Nat) (f : Field), fs[i]? = some f → DataW.trod enc P w 0 (fun _ => true) true m f.type ((cs.drop f.offset).take (P.cellsOf f.type)) = xs[i]?) →
    ∃ ps, Each Rs ps ∧ RepList (Low w) w ps (cs.drop o) ∧ ∀ v ∈ cs.drop o, v.oneCell' = true
  | [], [], o, cs, xs, h, hn, _, _ => by
    simp only [Fits] at h
    subst h
    refine ⟨[], rfl, ?_, ?_⟩
    · simp only [RepList]; simp [← hn]
    · simp [← hn]
  | f :: fs, R :: Rs, o, cs, xs, h, hn, hl, hx => by
    simp only [Fits] at h
    obtain ⟨ho, hO, hF⟩ := h
    have h0 := hx 0 f rfl
    match xs, hl with
    | y :: xs, hl =>
      rw [List.getElem?_cons_zero, ho] at h0
      obtain ⟨a, h1, h2, h3⟩ := hO _ _ _ _ _ _ h0
      obtain ⟨b, h4, h5, h6⟩ := fits_rep (xs := xs) hF hn (by simpa using hl) (fun i g hg => by simpa using hx (i + 1) g (by simpa using hg))
      have e : cs.drop o = (cs.drop o).take (P.cellsOf f.type) ++ cs.drop (o + P.cellsOf f.type) := by
        rw [← List.drop_drop, List.take_append_drop]
      refine ⟨a ++ b, ⟨a, b, rfl, h1, h4⟩, ?_, ?_⟩
      · rw [e]; exact h2.append h5
      · rw [e]; intro v hv
        rcases List.mem_append.1 hv with hv | hv
        · exact h3 v hv
        · exact h6 v hv
  | [], _ :: _, _, _, _, h, _, _, _ => by simp [Fits] at h
  | _ :: _, [], _, _, _, h, _, _, _ => by simp [Fits] at h
theorem Opn.struct {P : Program} {t : TypeId} {fs : List Field} {Rs : List (List PV → Prop)} (ht : P.underlying t = some (.struct fs.toArray)) (hF : Fits P 0 fs Rs (P.cellsOf t)) : Opn P t (Each Rs) := by
  intro H enc w fuel cs x h
  obtain ⟨xs, n, _, _, hl, hxl, hx⟩ := DataW.trod_struct ht h
  obtain ⟨ps, h1, h2, h3⟩ := fits_rep hF hl (by simpa using hxl) (fun i f hf => hx i f (by simpa using hf))
  exact ⟨ps, h1, by simpa using h2, by simpa using h3⟩
theorem Opn.mono {P : Program} {t : TypeId} {R R' : List PV → Prop} (h : Opn P t R) (hR : ∀ ps, R ps → R' ps) : Opn P t R' := fun H enc w fuel cs x hx => by
  obtain ⟨ps, h1, h2⟩ := h H enc w fuel cs x hx
  exact ⟨ps, hR _ h1, h2⟩

/-- An argument of a type. -/
def OpnA (P : Program) (t : TypeId) (Q : PV → Prop) : Prop :=
  ∀ (H : Type) (enc : TypeId × Value → H) (w : World) (base : Nat) (v : Value) (d : DataW H) (p : List MemPlace),
    Value.okWide P w .any base t v → DataW.Trod enc P w 0 (fun _ => true) true t v d p → ∃ q, Q q ∧ Rep (Low w) w q v
theorem Opn.one {P : Program} {t : TypeId} {R : List PV → Prop} (h : Opn P t R) (hs : ∀ w base v, Value.okWide P w .any base t v → v.cells = #[v]) : OpnA P t (fun q => R [q]) := by
  intro H enc w base v d p hok ⟨fuel, hf⟩
  obtain ⟨ps, h1, h2, _⟩ := h _ _ _ _ _ _ hf
  rw [hs _ _ _ hok] at h2
  have hl := h2.length
  match ps, hl with
  | [q], _ =>
    simp only [RepList] at h2
    obtain ⟨v', vs', h3, h4, _⟩ := h2
    cases h3
    exact ⟨q, h1, h4⟩
theorem OpnA.int {P : Program} {t : TypeId} (k : IntKind) (ht : P.underlying t = some (.int k)) : OpnA P t (fun q => ∃ n, q = .int k n ∧ k.min ≤ n ∧ n ≤ k.max) := by
  have := (Opn.int k ht).one fun w base v h => by obtain ⟨n, rfl⟩ := okWide_int ht h; rfl
  intro H enc w base v d p h1 h2
  obtain ⟨q, ⟨n, h3, h4⟩, h5⟩ := this H enc w base v d p h1 h2
  exact ⟨q, ⟨n, by simpa using h3, h4⟩, h5⟩
theorem OpnA.bool {P : Program} {t : TypeId} (ht : P.underlying t = some .bool) : OpnA P t (fun q => ∃ b, q = .bool b) := by
  have := (Opn.bool ht).one fun w base v h => by obtain ⟨n, rfl⟩ := okWide_bool ht h; rfl
  intro H enc w base v d p h1 h2
  obtain ⟨q, ⟨n, h3⟩, h5⟩ := this H enc w base v d p h1 h2
  exact ⟨q, ⟨n, by simpa using h3⟩, h5⟩
theorem OpnA.slice {P : Program} {t e : TypeId} {R : List PV → Prop} (ht : P.underlying t = some (.slice e)) (hc0 : 0 < P.cellsOf e) (he : Opn P e R) : OpnA P t (fun q => ∃ l : List (List PV), q = .sl l ∧ (∀ x ∈ l, R x) ∧ l.length ≤ maxLen) := by
  have := (Opn.slice ht hc0 he).one fun w base v h => by obtain ⟨a, len, cap, rfl⟩ := okWide_slice ht h; rfl
  intro H enc w base v d p h1 h2
  obtain ⟨q, ⟨n, h3, h4⟩, h5⟩ := this H enc w base v d p h1 h2
  exact ⟨q, ⟨n, by simpa using h3, h4⟩, h5⟩
theorem OpnA.struct {P : Program} {t : TypeId} {fs : List Field} {Rs : List (List PV → Prop)} (ht : P.underlying t = some (.struct fs.toArray)) (hF : Fits P 0 fs Rs (P.cellsOf t)) : OpnA P t (fun q => ∃ l, q = .ag l ∧ Each Rs l) := by
  intro H enc w base v d p hok ⟨fuel, hf⟩
  obtain ⟨ps, h1, h2, _⟩ := Opn.struct ht hF _ _ _ _ _ _ hf
  simp only [Value.okWide, ht] at hok
  obtain ⟨cs, rfl, _⟩ := hok
  refine ⟨.ag ps, ⟨ps, rfl, h1⟩, ?_⟩
  simp only [Rep]
  exact ⟨cs.toList, by simp, h2⟩
theorem OpnA.mono {P : Program} {t : TypeId} {Q Q' : PV → Prop} (h : OpnA P t Q) (hQ : ∀ q, Q q → Q' q) : OpnA P t Q' := fun H enc w base v d p h1 h2 => by
  obtain ⟨q, h3, h4⟩ := h H enc w base v d p h1 h2
  exact ⟨q, hQ _ h3, h4⟩

/-- All arguments. -/
def Args (P : Program) : List TypeId → List (PV → Prop) → Prop
  | [], [] => True
  | t :: ts, Q :: Qs => OpnA P t Q ∧ P.readableRec t = true ∧ t < P.types.size ∧ Args P ts Qs
  | _, _ => False
def Qall : List (PV → Prop) → List PV → Prop
  | [], ps => ps = []
  | Q :: Qs, ps => ∃ q qs, ps = q :: qs ∧ Q q ∧ Qall Qs qs
theorem args_rep {P : Program} {H : Type} {enc : TypeId × Value → H} {w : World} {base : Nat} : ∀ {ts : List TypeId} {Qs : List (PV → Prop)} {vs : List Value} {ds : List (DataW H)} {p : List MemPlace}, Args P ts Qs →
    (∀ (j : Nat) t v, ts[j]? = some t → vs[j]? = some v → Value.okWide P w .any base t v) → DataW.TrodAll enc P w 0 (fun _ => true) true ts vs ds p → ∃ ps, Qall Qs ps ∧ RepList (Low w) w ps vs
  | [], [], vs, ds, p, _, _, h => by
    obtain ⟨rfl, _⟩ := trodAll_nil h
    exact ⟨[], rfl, rfl⟩
  | t :: ts, Q :: Qs, vs, ds, p, hA, hok, h => by
    obtain ⟨v, vs', d, ds', p1, q1, rfl, rfl, rfl, h1, h2⟩ := trodAll_cons h
    obtain ⟨hO, _, _, hA'⟩ := hA
    obtain ⟨q, h3, h4⟩ := hO _ _ _ base _ _ _ (hok 0 t v rfl rfl) h1
    obtain ⟨ps, h5, h6⟩ := args_rep hA' (fun j t' v' hj hv => hok (j + 1) t' v' (by simpa using hj) (by simpa using hv)) h2
    exact ⟨q :: ps, ⟨q, ps, rfl, h3, h5⟩, ⟨v, vs', rfl, h4, h6⟩⟩
  | [], _ :: _, _, _, _, h, _, _ => by simp [Args] at h
  | _ :: _, [], _, _, _, h, _, _ => by simp [Args] at h
theorem args_stay {P : Program} (hl : laidOutB P = true) {H : Type} {enc : TypeId × Value → H} {w w' : World} (hb : Below w.heap.size w w') : ∀ {ts : List TypeId} {Qs : List (PV → Prop)} {vs : List Value} {ds : List (DataW H)} {p : List MemPlace}, Args P ts Qs → (∀ x ∈ p, x.block < w.heap.size) →
    DataW.TrodAll enc P w 0 (fun _ => true) true ts vs ds p → DataW.TrodAll enc P w' 0 (fun b => decide (b < w.heap.size)) true ts vs ds p
  | [], [], vs, ds, p, _, _, h => by
    obtain ⟨rfl, rfl, rfl⟩ := trodAll_nil h
    exact trodAll_mk0
  | t :: ts, Q :: Qs, vs, ds, p, hA, hlt, h => by
    obtain ⟨v, vs', d, ds', p1, q1, rfl, rfl, rfl, h1, h2⟩ := trodAll_cons h
    obtain ⟨_, h3, h4, hA'⟩ := hA
    exact ⟨p1, q1, Below.trod hl h3 h4 h1 hb (fun x hx => hlt x (by simp [hx])), args_stay hl hb hA' (fun x hx => hlt x (by simp [hx])) h2, rfl⟩
  | [], _ :: _, _, _, _, h, _, _ => by simp [Args] at h
  | _ :: _, [], _, _, _, h, _, _ => by simp [Args] at h

/-- A LAW, FROM ITS CONTRACT: called with whatever reads, it returns true; what came in reads as it did. -/
theorem law_lift {C : Checked} {f : FuncId} {fn : Func} {s : ChangeSpec} {Qs : List (PV → Prop)} {os : Os} {H : Type} {enc : TypeId × Value → H} {tb : TypeId}
    (own : ownKnob C.prog.godebug = none) (hl : laidOutB C.prog = true) (started : os.Started) (noInit : C.prog.inits.idxOf? f = none) (hfn : C.prog.funcs[f]? = some fn)
    (witness : ∃ (w : World) (tape : Tape) (i : Input), w.os = os ∧ (w.forCall tape i).Shaped C.prog ∧ i.vars = [] ∧ Input.okWide C.prog (w.forCall tape i) .any w.heap.size f i ∧
      s.pre6 enc C.prog fn [] false (w.forCall tape i).memory i.args ∧ ({} : Assume).holds C.prog (lone (Frame.enter C.prog f i.args .normal) [] (w.forCall tape i)))
    (hv : s.vars = []) (hs : ∀ ds : List (DataW H), ds.length = fn.params.size → s.fn H ds = { results := [.lit (.bool true)], args := ds })
    (hres : fn.resultTypes = #[tb]) (htb : C.prog.underlying tb = some .bool)
    (hA : Args C.prog fn.params.toList Qs) (h : ∀ ps, Qall Qs ps → Ret C.prog f ps (.bool true)) :
    ReturnsInHanded {} C os f .any (s.pre6 enc C.prog fn [] false) (s.post enc C.prog fn false true false false) := by
  refine returnsInHanded_of_change own started noInit hfn witness ?_
  intro W base args ds gs before hval hW _ _
  have hW' := hW
  obtain ⟨p, q, hT, hV, rfl, _, _⟩ := hW
  rw [hv] at hV
  obtain ⟨rfl, rfl⟩ := trodVars_none hV
  obtain ⟨ps, h1, h2⟩ := args_rep (base := base) hA (fun j t v hj hv => hval j t v (by simpa using hj) (by simpa using hv)) hT
  obtain ⟨_, hcall⟩ := h ps h1
  have h3 := hcall W (Low W) args.toList (fun b o hb => hb) h2
  refine Calls.mono h3 fun e w' hw => ?_
  obtain ⟨v, rfl, hbel, S', _, _, hrep⟩ := hw
  simp only [Rep] at hrep
  subst hrep
  refine ⟨_, rfl, ?_⟩
  have hlen : ds.length = fn.params.size := by
    have : ∀ {ts : List TypeId} {vs : List Value} {ds : List (DataW H)} {p : List MemPlace}, DataW.TrodAll enc C.prog W 0 (fun _ => true) true ts vs ds p → ds.length = ts.length := by
      intro ts
      induction ts with
      | nil => intro vs ds p h; obtain ⟨_, rfl, _⟩ := trodAll_nil h; rfl
      | cons t ts ih =>
        intro vs ds p h
        obtain ⟨v, vs', d, ds', p1, q1, rfl, rfl, rfl, h1, h2⟩ := trodAll_cons h
        simp [ih h2]
    rw [this hT]; simp
  have hlt : ∀ x ∈ p, x.block < W.heap.size := fun x hx => hW'.lt x (by simpa using hx)
  have hold : ∀ x ∈ p, (fun b => decide (b < W.heap.size)) x.block = true := fun x hx => by simpa using hlt x hx
  have hfn2 : s.fn H (ds ++ []) = { results := [.lit (.bool true)], args := ds } := by rw [List.append_nil, hs ds hlen]
  refine ⟨ds, [], p ++ [], [], p, [], hW', ?_, ?_, ?_, World.keptBut_mono (fun x hx => ⟨hx, .inr (.inl (by simpa using hx))⟩) (hbel.frame (· ∈ p ++ [])), ?_⟩
  · rw [hfn2, hres]
    exact trodAll_mk1 (shut_bool htb true)
  · rw [hfn2]
    exact args_stay hl hbel hA hlt hT
  · rw [hfn2, hv]; rfl
  · intro h0; cases h0
end Pm
