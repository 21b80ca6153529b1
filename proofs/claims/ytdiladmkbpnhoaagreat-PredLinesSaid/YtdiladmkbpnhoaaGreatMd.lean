import Derived.Test.YtdiladmkbpnhoaaGreatMc
set_option linter.unusedSimpArgs false
set_option linter.unusedVariables false
namespace Pm
open Go Go.RowKit
def emap {α : Type} (g : α → List PV) (l : List α) : List (List PV) := l.map g
def sls {α : Type} (g : α → List PV) (l : List α) : PV := .sl (emap g l)
def nth {α : Type} [Inhabited α] (l : List α) (i : Nat) : α := l[i]?.getD default
def Enc {α : Type} (g : α → List PV) (n : Nat) : Prop := ∀ x, (g x).length = n
def PEnc {α : Type} (g : α → List PV) : Prop := ∀ x, (g x).all pers1 = true
def withRow (o : Option Row) (ver : Nat) (K : Row → Prop) : Prop := ∃ r, o = some r ∧ r.ver = ver ∧ K r
@[congr] theorem withRow_congr {o o' : Option Row} {ver : Nat} {K : Row → Prop} (h : o = o') : withRow o ver K = withRow o' ver K := by rw [h]
@[simp] theorem withRow_some {r : Row} {ver : Nat} {K : Row → Prop} : withRow (some r) ver K = stepA (r.ver = ver) (K r) := by simp [withRow, stepA]
def ats (els : List (List PV)) (i : Nat) (K : List PV → Prop) : Prop := ∃ el, els[i]? = some el ∧ K el
@[congr] theorem ats_congr {l l' : List (List PV)} {i i' : Nat} {K : List PV → Prop} (h : l = l') (hi : i = i') : ats l i K = ats l' i' K := by rw [h, hi]
@[simp] theorem ats_emap {α : Type} [Inhabited α] {g : α → List PV} {l : List α} {i : Nat} {K : List PV → Prop} : ats (emap g l) i K = stepA (i < l.length) (K (g (nth l i))) := by
 simp only [ats, emap, stepA, nth]
 apply propext
 constructor
 ·rintro ⟨el, h1, h2⟩
  simp at h1
  obtain ⟨x, h1, rfl⟩ := h1
  have := (List.getElem?_eq_some_iff.1 h1).1
  rw [h1]
  exact ⟨this, h2⟩
 ·rintro ⟨h1, h2⟩
  rw [List.getElem?_eq_getElem h1] at h2
  exact ⟨g l[i], by simp [h1], h2⟩
@[simp] theorem ats_zero {e : List PV} {es : List (List PV)} {K : List PV → Prop} : ats (e :: es) 0 K = go (K e) := by show _ = K e; simp [ats]
@[simp] theorem ats_succ {e : List PV} {es : List (List PV)} {i : Nat} {K : List PV → Prop} : ats (e :: es) (i + 1) K = ats es i K := by simp [ats]
def lget {α : Type} (l : List α) (i : Nat) : Option α := l[i]?
@[simp] theorem lget_zero {α : Type} {x : α} {l : List α} : lget (x :: l) 0 = some x := rfl
@[simp] theorem lget_succ {α : Type} {x : α} {l : List α} {n : Nat} : lget (x :: l) (n + 1) = lget l n := rfl
def optK {α : Type} (o : Option α) (K : α → Prop) : Prop := ∃ v, o = some v ∧ K v
@[congr] theorem optK_congr {α : Type} {o o' : Option α} {K : α → Prop} (h : o = o') : optK o K = optK o' K := by rw [h]
@[simp] theorem optK_some {α : Type} {x : α} {K : α → Prop} : optK (some x) K = go (K x) := by show _ = K x; simp [optK]
def ldK (ti : TI) (l : List PV) (j : Nat) (K : PV → Prop) : Prop := if ti.agg = true then stepA (j + ti.size ≤ l.length) (K (.ag ((l.drop j).take ti.size))) else optK (lget l j) K
@[congr] theorem ldK_congr {t t' : TI} {l l' : List PV} {j : Nat} {K : PV → Prop} (h1 : t = t') (h2 : l = l') : ldK t l j K = ldK t' l' j K := by rw [h1, h2]
@[simp] theorem ldK_int {k : IntKind} {l : List PV} {j : Nat} {K : PV → Prop} : ldK (.int k) l j K = optK (lget l j) K := by simp [ldK, TI.agg]
@[simp] theorem ldK_bool {l : List PV} {j : Nat} {K : PV → Prop} : ldK .bool l j K = optK (lget l j) K := by simp [ldK, TI.agg]
@[simp] theorem ldK_str {l : List PV} {j : Nat} {K : PV → Prop} : ldK .str l j K = optK (lget l j) K := by simp [ldK, TI.agg]
@[simp] theorem ldK_slice {e n b : Nat} {z : List PV} {l : List PV} {j : Nat} {K : PV → Prop} : ldK (.slice e n b z) l j K = optK (lget l j) K := by simp [ldK, TI.agg]
@[simp] theorem ldK_arr {e m n : Nat} {z : List PV} {l : List PV} {j : Nat} {K : PV → Prop} : ldK (.arr e m n z) l j K = stepA (j + z.length ≤ l.length) (K (.ag ((l.drop j).take z.length))) := by simp [ldK, TI.agg, TI.size, TI.zero]
@[simp] theorem ldK_ptrT {l : List PV} {j : Nat} {K : PV → Prop} : ldK .ptrT l j K = optK (lget l j) K := by simp [ldK, TI.agg]
@[simp] theorem ldK_fnT {l : List PV} {j : Nat} {K : PV → Prop} : ldK .fnT l j K = optK (lget l j) K := by simp [ldK, TI.agg]
@[simp] theorem ldK_struct {fs : List (Nat × Nat × Bool)} {z : List PV} {l : List PV} {j : Nat} {K : PV → Prop} : ldK (.struct fs z) l j K = stepA (j + z.length ≤ l.length) (K (.ag ((l.drop j).take z.length))) := by simp [ldK, TI.agg, TI.size, TI.zero]
def yloadK (E : Env) (t : TypeId) (rows : Rows) (p : PV) (K : PV → Prop) : Prop :=
 stepA ((E.ty t).known = true) (match p with
 | .rd l => ldK (E.ty t) l 0 K
 | .ptr id ver i j => withRow (rows id) ver fun r => ats r.els i fun el => ldK (E.ty t) el j K
 | _ => False)
@[congr] theorem yloadK_congr {E : Env} {t : TypeId} {rows : Rows} {p p' : PV} {K : PV → Prop} (h : p = p') : yloadK E t rows p K = yloadK E t rows p' K := by rw [h]
@[simp] theorem yloadK_rd {E : Env} {t : TypeId} {rows : Rows} {l : List PV} {K : PV → Prop} : yloadK E t rows (.rd l) K = stepA ((E.ty t).known = true) (ldK (E.ty t) l 0 K) := rfl
@[simp] theorem yloadK_ptr {E : Env} {t : TypeId} {rows : Rows} {id ver i j : Nat} {K : PV → Prop} : yloadK E t rows (.ptr id ver i j) K = stepA ((E.ty t).known = true) (withRow (rows id) ver fun r => ats r.els i fun el => ldK (E.ty t) el j K) := rfl
theorem stepV_ld {ti : TI} {l : List PV} {j : Nat} {K : PV → Prop} : stepV (fun v => if ti.agg = true then j + ti.size ≤ l.length ∧ v = .ag ((l.drop j).take ti.size) else l[j]? = some v) K = ldK ti l j K := by
 simp only [ldK, optK]
 split
 ·rw [stepV_and, stepV_eq]
 ·rfl
theorem stepV_load {E : Env} {t : TypeId} {rows : Rows} {p : PV} {K : PV → Prop} : stepV (fun v => yload E t rows p v) K = yloadK E t rows p K := by
 simp only [yload, yloadK]
 rw [stepV_and]
 congr 1
 cases p with
 | rd l => dsimp only; rw [← stepV_ld]; simp [go]
 | ptr id ver i j =>
  simp only [withRow, ats, ← stepV_ld]
  apply propext; simp only [stepV]
  constructor
  ·rintro ⟨v, ⟨r, h1, h2, el, h3, h4⟩, h5⟩; exact ⟨r, h1, h2, el, h3, v, h4, h5⟩
  ·rintro ⟨r, h1, h2, el, h3, v, h4, h5⟩; exact ⟨v, ⟨r, h1, h2, el, h3, h4⟩, h5⟩
 | _ => simp [stepV]
def yfieldK (ti : TI) (i : Nat) (x : PV) (K : PV → Prop) : Prop :=
 match ti with
 | .struct fs _ => optK (lget fs i) fun p => match x with
  | .ag l => if p.2.2 = true then K (.ag ((l.drop p.1).take p.2.1)) else optK (lget l p.1) K
  | _ => False
 | _ => False
@[congr] theorem yfieldK_congr {t t' : TI} {i : Nat} {x x' : PV} {K : PV → Prop} (h : t = t') (h2 : x = x') : yfieldK t i x K = yfieldK t' i x' K := by rw [h, h2]
def fldK (p : Nat × Nat × Bool) (l : List PV) (K : PV → Prop) : Prop := if p.2.2 = true then K (.ag ((l.drop p.1).take p.2.1)) else optK (lget l p.1) K
@[simp] theorem fldK_true {o n : Nat} {l : List PV} {K : PV → Prop} : fldK (o, n, true) l K = go (K (.ag ((l.drop o).take n))) := by show _ = K _; simp [fldK]
@[simp] theorem fldK_false {o n : Nat} {l : List PV} {K : PV → Prop} : fldK (o, n, false) l K = optK (lget l o) K := by simp [fldK]
@[congr] theorem fldK_congr {p p' : Nat × Nat × Bool} {l l' : List PV} {K : PV → Prop} (h : p = p') (h2 : l = l') : fldK p l K = fldK p' l' K := by rw [h, h2]
@[simp] theorem yfieldK_ag {fs : List (Nat × Nat × Bool)} {z : List PV} {i : Nat} {l : List PV} {K : PV → Prop} : yfieldK (.struct fs z) i (.ag l) K = optK (lget fs i) fun p => fldK p l K := rfl
theorem stepV_field {E : Env} {t : TypeId} {i : Nat} {x : PV} {K : PV → Prop} : stepV (fun v => yfield E t i x v) K = yfieldK (E.ty t) i x K := by
 simp only [yfield, yfieldK]
 cases E.ty t with
 | struct fs z =>
  simp only [optK]
  apply propext; simp only [stepV]
  cases x with
  | ag l =>
   simp only
   constructor
   ·rintro ⟨v, ⟨o, n, b, h1, h2⟩, h3⟩
    refine ⟨_, h1, ?_⟩
    simp only
    split at h2
    ·rename_i hb; rw [if_pos hb, ← h2]; exact h3
    ·rename_i hb; rw [if_neg hb]; exact ⟨v, h2, h3⟩
   ·rintro ⟨⟨o, n, b⟩, h1, h2⟩
    simp only at h2
    split at h2
    ·rename_i hb; exact ⟨_, ⟨o, n, b, h1, by rw [if_pos hb]⟩, h2⟩
    ·rename_i hb; obtain ⟨v, h3, h4⟩ := h2; exact ⟨v, ⟨o, n, b, h1, by rw [if_neg hb]; exact h3⟩, h4⟩
  | _ => simp
 | _ => simp [stepV]
def yfieldAddrK (ti : TI) (rows : Rows) (i : Nat) (x : PV) (K : PV → Prop) : Prop :=
 match ti with
 | .struct fs _ => optK (lget fs i) fun p => match x with
  | .rd l => stepA (p.1 ≤ l.length) (K (.rd (l.drop p.1)))
  | .ptr id ver a j => withRow (rows id) ver fun _ => K (.ptr id ver a (j + p.1))
  | _ => False
 | _ => False
@[congr] theorem yfieldAddrK_congr {t t' : TI} {rows : Rows} {i : Nat} {x x' : PV} {K : PV → Prop} (h : t = t') (h2 : x = x') : yfieldAddrK t rows i x K = yfieldAddrK t' rows i x' K := by rw [h, h2]
@[simp] theorem yfieldAddrK_rd {fs : List (Nat × Nat × Bool)} {z : List PV} {rows : Rows} {i : Nat} {l : List PV} {K : PV → Prop} : yfieldAddrK (.struct fs z) rows i (.rd l) K = optK (lget fs i) fun p => stepA (p.1 ≤ l.length) (K (.rd (l.drop p.1))) := rfl
@[simp] theorem yfieldAddrK_ptr {fs : List (Nat × Nat × Bool)} {z : List PV} {rows : Rows} {i id ver a j : Nat} {K : PV → Prop} : yfieldAddrK (.struct fs z) rows i (.ptr id ver a j) K = optK (lget fs i) fun p => withRow (rows id) ver fun _ => K (.ptr id ver a (j + p.1)) := rfl
theorem stepV_fieldAddr {E : Env} {t : TypeId} {rows : Rows} {i : Nat} {x : PV} {K : PV → Prop} : stepV (fun v => yfieldAddr E t rows i x v) K = yfieldAddrK (E.ty t) rows i x K := by
 simp only [yfieldAddr, yfieldAddrK]
 cases E.ty t with
 | struct fs z =>
  simp only [optK]
  apply propext; simp only [stepV]
  cases x with
  | rd l =>
   simp only [stepA]
   constructor
   ·rintro ⟨v, ⟨o, n, b, h1, h2, rfl⟩, h3⟩; exact ⟨_, h1, h2, h3⟩
   ·rintro ⟨⟨o, n, b⟩, h1, h2, h3⟩; exact ⟨_, ⟨o, n, b, h1, h2, rfl⟩, h3⟩
  | ptr id ver a j =>
   simp only [withRow]
   constructor
   ·rintro ⟨v, ⟨o, n, b, h1, ⟨r, h2, h3⟩, rfl⟩, h4⟩; exact ⟨_, h1, r, h2, h3, h4⟩
   ·rintro ⟨⟨o, n, b⟩, h1, r, h2, h3, h4⟩; exact ⟨_, ⟨o, n, b, h1, ⟨r, h2, h3⟩, rfl⟩, h4⟩
  | _ => simp
 | _ => simp [stepV]
def lenAll (n : Nat) (l : List (List PV)) : Prop := ∀ e ∈ l, e.length = n
@[simp] theorem lenAll_emap {α : Type} {g : α → List PV} {n : Nat} {l : List α} : (Enc g n) → lenAll n (emap g l) = True := by
 intro h
 simp only [lenAll, emap, List.mem_map, eq_iff_iff, iff_true]
 rintro e ⟨x, _, rfl⟩
 exact h x
@[simp] theorem lenAll_nil {n : Nat} : lenAll n [] = True := by simp [lenAll]
@[simp] theorem lenAll_cons {n : Nat} {e : List PV} {l : List (List PV)} : lenAll n (e :: l) = (e.length = n ∧ lenAll n l) := by simp [lenAll]
def yindexAddrK (ti : TI) (rows : Rows) (x ix : PV) (K : PV → Prop) : Prop :=
 match ti, ix with
 | .slice _ n _ _, .int _ k => stepA (0 ≤ k) (match x with
  | .sl l => stepA (lenAll n l) (ats l k.toNat fun el => K (.rd el))
  | .slx l => stepA (lenAll n l) (ats l k.toNat fun el => K (.rd el))
  | .own id ver off len => withRow (rows id) ver fun r => stepA (r.size = n ∧ k.toNat < len) (K (.ptr id ver (off + k.toNat) 0))
  | _ => False)
 | .arr _ m n _, .int _ k => stepA (0 ≤ k ∧ k.toNat < m) (match x with
  | .rd l => stepA (k.toNat * n ≤ l.length) (K (.rd (l.drop (k.toNat * n))))
  | .ptr id ver a j => withRow (rows id) ver fun _ => K (.ptr id ver a (j + k.toNat * n))
  | _ => False)
 | _, _ => False
@[congr] theorem yindexAddrK_congr {t t' : TI} {rows : Rows} {x x' y y' : PV} {K : PV → Prop} (h : t = t') (h2 : x = x') (h3 : y = y') : yindexAddrK t rows x y K = yindexAddrK t' rows x' y' K := by rw [h, h2, h3]
section
variable {α : Type} [Inhabited α] {g : α → List PV} {l : List α} {e n b : Nat} {z : List PV} {rows : Rows} {kk : IntKind} {k : Int} {K : PV → Prop} {els : List (List PV)} {id ver off len : Nat}
@[simp] theorem yindexAddrK_sls : yindexAddrK (.slice e n b z) rows (sls g l) (.int kk k) K = stepA (0 ≤ k ∧ k.toNat < l.length) (stepA (lenAll n (emap g l)) (K (.rd (g (nth l k.toNat))))) := by
 simp only [yindexAddrK, sls, ats_emap, stepA, and_assoc]
 apply propext
 constructor
 ·rintro ⟨h1, h2, h3, h4⟩; exact ⟨h1, h3, h2, h4⟩
 ·rintro ⟨h1, h2, h3, h4⟩; exact ⟨h1, h3, h2, h4⟩
@[simp] theorem yindexAddrK_sl : yindexAddrK (.slice e n b z) rows (.sl els) (.int kk k) K = stepA (0 ≤ k) (stepA (lenAll n els) (ats els k.toNat fun el => K (.rd el))) := rfl
@[simp] theorem yindexAddrK_slx : yindexAddrK (.slice e n b z) rows (.slx els) (.int kk k) K = stepA (0 ≤ k) (stepA (lenAll n els) (ats els k.toNat fun el => K (.rd el))) := rfl
@[simp] theorem yindexAddrK_ard {m : Nat} {l : List PV} : yindexAddrK (.arr e m n z) rows (.rd l) (.int kk k) K = stepA (0 ≤ k ∧ k.toNat < m) (stepA (k.toNat * n ≤ l.length) (K (.rd (l.drop (k.toNat * n))))) := rfl
@[simp] theorem yindexAddrK_aptr {m a j : Nat} : yindexAddrK (.arr e m n z) rows (.ptr id ver a j) (.int kk k) K = stepA (0 ≤ k ∧ k.toNat < m) (withRow (rows id) ver fun _ => K (.ptr id ver a (j + k.toNat * n))) := rfl
@[simp] theorem yindexAddrK_own : yindexAddrK (.slice e n b z) rows (.own id ver off len) (.int kk k) K = stepA (0 ≤ k) (withRow (rows id) ver fun r => stepA (r.size = n ∧ k.toNat < len) (K (.ptr id ver (off + k.toNat) 0))) := rfl
end
theorem stepV_indexAddr {E : Env} {t : TypeId} {rows : Rows} {x ix : PV} {K : PV → Prop} : stepV (fun v => yindexAddr E t rows x ix v) K = yindexAddrK (E.ty t) rows x ix K := by
 simp only [yindexAddr, yindexAddrK]
 cases E.ty t with
 | slice e n b z =>
  cases ix with
  | int kk k =>
   simp only
   rw [stepV_and]
   congr 1
   cases x with
   | sl l =>
    simp only [stepA, ats, lenAll]
    apply propext; simp only [stepV]
    constructor
    ·rintro ⟨v, ⟨el, h1, h2, rfl⟩, h4⟩; exact ⟨h2, el, h1, h4⟩
    ·rintro ⟨h2, el, h1, h4⟩; exact ⟨_, ⟨el, h1, h2, rfl⟩, h4⟩
   | slx l =>
    simp only [stepA, ats, lenAll]
    apply propext; simp only [stepV]
    constructor
    ·rintro ⟨v, ⟨el, h1, h2, rfl⟩, h4⟩; exact ⟨h2, el, h1, h4⟩
    ·rintro ⟨h2, el, h1, h4⟩; exact ⟨_, ⟨el, h1, h2, rfl⟩, h4⟩
   | own id ver off len =>
    simp only [stepA, withRow]
    apply propext; simp only [stepV]
    constructor
    ·rintro ⟨v, ⟨r, h1, h2, h3, h4, rfl⟩, h5⟩; exact ⟨r, h1, h2, ⟨h3, h4⟩, h5⟩
    ·rintro ⟨r, h1, h2, ⟨h3, h4⟩, h5⟩; exact ⟨_, ⟨r, h1, h2, h3, h4, rfl⟩, h5⟩
   | _ => simp [stepV]
  | _ => simp [stepV]
 | arr e m n z =>
  cases ix with
  | int kk k =>
   simp only
   rw [stepV_and]
   congr 1
   cases x with
   | rd l =>
    simp only
    rw [stepV_and, stepV_eq]
   | ptr id ver a j =>
    simp only [withRow]
    apply propext; simp only [stepV]
    constructor
    ·rintro ⟨v, ⟨⟨r, h1, h2⟩, rfl⟩, h3⟩; exact ⟨r, h1, h2, h3⟩
    ·rintro ⟨r, h1, h2, h3⟩; exact ⟨_, ⟨⟨r, h1, h2⟩, rfl⟩, h3⟩
   | _ => simp [stepV]
  | _ => simp [stepV]
 | _ => simp [stepV]
def bdK (d : Nat) (o : Option PV) (K : Nat → Prop) : Prop :=
 match o with
 | none => K d
 | some (.int _ k) => stepA (0 ≤ k) (K k.toNat)
 | some _ => False
@[congr] theorem bdK_congr {d d' : Nat} {o o' : Option PV} {K : Nat → Prop} (h : d = d') (h2 : o = o') : bdK d o K = bdK d' o' K := by rw [h, h2]
@[simp] theorem bdK_none {d : Nat} {K : Nat → Prop} : bdK d none K = go (K d) := rfl
@[simp] theorem bdK_some {d : Nat} {kk : IntKind} {k : Int} {K : Nat → Prop} : bdK d (some (.int kk k)) K = stepA (0 ≤ k) (K k.toNat) := rfl
theorem bd_iff {d : Nat} {o : Option PV} {K : Nat → Prop} : bdK d o K ↔ ∃ n, ybd d o n ∧ K n := by
 cases o with
 | none => simp [bdK, ybd]
 | some p =>
  cases p with
  | int kk k =>
   simp only [bdK, ybd, stepA]
   constructor
   ·rintro ⟨h1, h2⟩; exact ⟨_, ⟨h1, rfl⟩, h2⟩
   ·rintro ⟨n, ⟨h1, rfl⟩, h2⟩; exact ⟨h1, h2⟩
  | _ => simp [bdK, ybd]
def cutK {α : Type} (mk mkx : List α → PV) (n : Nat) (l : List α) (ok : Prop) (lo hi mx : Option PV) (K : PV → Prop) : Prop :=
 bdK 0 lo fun a => bdK l.length hi fun b => stepA (a ≤ b ∧ b ≤ l.length) (stepA ok (match mx with
  | none => K (mk ((l.take b).drop a))
  | some m => bdK 0 (some m) fun c => stepA (b = c ∧ hi.isSome = true) (K (mkx ((l.take b).drop a)))))
def ysliceK (ti : TI) (rows : Rows) (x : PV) (lo hi mx : Option PV) (K : PV → Prop) : Prop :=
 match ti with
 | .slice _ n _ _ =>
  match x with
  | .nil => bdK 0 lo fun a => bdK 0 hi fun b => stepA (a = 0 ∧ b = 0 ∧ mx.isNone = true) (K .nil)
  | .sl l => cutK .sl .slx n l (lenAll n l) lo hi mx K
  | .slx l => cutK .sl .slx n l (lenAll n l) lo hi mx K
  | .own id ver off len => withRow (rows id) ver fun r => stepA (r.size = n) (bdK 0 lo fun a => bdK len hi fun b => stepA (a ≤ b ∧ b ≤ len ∧ mx.isNone = true) (K (.own id ver (off + a) (b - a))))
  | _ => False
 | _ => False
@[congr] theorem ysliceK_congr {t t' : TI} {rows : Rows} {x x' : PV} {lo lo' hi hi' mx mx' : Option PV} {K : PV → Prop} (h : t = t') (h2 : x = x') (h3 : lo = lo') (h4 : hi = hi') (h5 : mx = mx') : ysliceK t rows x lo hi mx K = ysliceK t' rows x' lo' hi' mx' K := by rw [h, h2, h3, h4, h5]
section
variable {α : Type} {g : α → List PV} {l : List α} {e n b : Nat} {z : List PV} {rows : Rows} {lo hi mx : Option PV} {K : PV → Prop} {els : List (List PV)} {id ver off len : Nat}
theorem emap_cut {a b : Nat} : ((emap g l).take b).drop a = emap g ((l.take b).drop a) := by simp [emap]
@[simp] theorem ysliceK_sls : ysliceK (.slice e n b z) rows (sls g l) lo hi none K = bdK 0 lo fun a => bdK l.length hi fun b => stepA (a ≤ b ∧ b ≤ l.length) (stepA (lenAll n (emap g l)) (K (sls g ((l.take b).drop a)))) := by
 simp only [ysliceK, sls, cutK, emap_cut]
 simp [emap]
theorem ysliceK_slsx {m : PV} : ysliceK (.slice e n b z) rows (sls g l) lo hi (some m) K = bdK 0 lo fun a => bdK l.length hi fun b => stepA (a ≤ b ∧ b ≤ l.length) (stepA (lenAll n (emap g l)) (bdK 0 (some m) fun c => stepA (b = c ∧ hi.isSome = true) (K (.slx (emap g ((l.take b).drop a)))))) := by
 simp only [ysliceK, sls, cutK, emap_cut]
 simp [emap]
@[simp] theorem ysliceK_nil : ysliceK (.slice e n b z) rows .nil lo hi mx K = bdK 0 lo fun a => bdK 0 hi fun b => stepA (a = 0 ∧ b = 0 ∧ mx.isNone = true) (K .nil) := rfl
@[simp] theorem ysliceK_own : ysliceK (.slice e n b z) rows (.own id ver off len) lo hi mx K = withRow (rows id) ver fun r => stepA (r.size = n) (bdK 0 lo fun a => bdK len hi fun b => stepA (a ≤ b ∧ b ≤ len ∧ mx.isNone = true) (K (.own id ver (off + a) (b - a)))) := rfl
end
theorem cut_iff {l : List (List PV)} {n : Nat} {lo hi mx : Option PV} {K : PV → Prop} : (∃ v, (∃ a b, ybd 0 lo a ∧ ybd l.length hi b ∧ a ≤ b ∧ b ≤ l.length ∧ (∀ e ∈ l, e.length = n) ∧ ycut l a b hi mx v) ∧ K v) ↔ cutK .sl .slx n l (lenAll n l) lo hi mx K := by
 simp only [cutK, bd_iff, stepA, lenAll, ycut]
 constructor
 ·rintro ⟨v, ⟨a, b, h1, h2, h3, h4, h5, h6⟩, h7⟩
  refine ⟨a, h1, b, h2, ⟨h3, h4⟩, h5, ?_⟩
  cases mx with
  | none => simp only at h6 ⊢; rw [← h6]; exact h7
  | some m => obtain ⟨c, q1, q2, q3, rfl⟩ := h6; exact ⟨c, q1, ⟨q2, q3⟩, h7⟩
 ·rintro ⟨a, h1, b, h2, ⟨h3, h4⟩, h5, h6⟩
  cases mx with
  | none => exact ⟨_, ⟨a, b, h1, h2, h3, h4, h5, rfl⟩, h6⟩
  | some m => obtain ⟨c, q1, ⟨q2, q3⟩, h7⟩ := h6; exact ⟨_, ⟨a, b, h1, h2, h3, h4, h5, c, q1, q2, q3, rfl⟩, h7⟩
theorem stepV_slice {E : Env} {t : TypeId} {rows : Rows} {x : PV} {lo hi mx : Option PV} {K : PV → Prop} : stepV (fun v => yslice E t rows x lo hi mx v) K = ysliceK (E.ty t) rows x lo hi mx K := by
 simp only [yslice, ysliceK]
 cases E.ty t with
 | slice e n b z =>
  cases x with
  | sl l => exact propext cut_iff
  | slx l => exact propext cut_iff
  | nil =>
   simp only [bd_iff, stepA]
   apply propext; simp only [stepV]
   constructor
   ·rintro ⟨v, ⟨a, b, h1, h2, h3, h4, h5, rfl⟩, h6⟩; exact ⟨a, h1, b, h2, ⟨h3, h4, h5⟩, h6⟩
   ·rintro ⟨a, h1, b, h2, ⟨h3, h4, h5⟩, h6⟩; exact ⟨_, ⟨a, b, h1, h2, h3, h4, h5, rfl⟩, h6⟩
  | own id ver off len =>
   simp only [bd_iff, stepA, withRow]
   apply propext; simp only [stepV]
   constructor
   ·rintro ⟨v, ⟨r, q1, q2, q3, a, b, h1, h2, h3, h4, h5, rfl⟩, h6⟩; exact ⟨r, q1, q2, q3, a, h1, b, h2, ⟨h3, h4, h5⟩, h6⟩
   ·rintro ⟨r, q1, q2, q3, a, h1, b, h2, ⟨h3, h4, h5⟩, h6⟩; exact ⟨_, ⟨r, q1, q2, q3, a, b, h1, h2, h3, h4, h5, rfl⟩, h6⟩
  | _ => simp [stepV]
 | _ => simp [stepV]
def ynilK (rows : Rows) (x : PV) (K : PV → Prop) : Prop :=
 match x with
 | .rd l => K (.rd l)
 | .ptr id ver i j => withRow (rows id) ver fun _ => K (.ptr id ver i j)
 | _ => False
@[congr] theorem ynilK_congr {rows : Rows} {x x' : PV} {K : PV → Prop} (h : x = x') : ynilK rows x K = ynilK rows x' K := by rw [h]
@[simp] theorem ynilK_rd {rows : Rows} {l : List PV} {K : PV → Prop} : ynilK rows (.rd l) K = go (K (.rd l)) := rfl
@[simp] theorem ynilK_ptr {rows : Rows} {id ver i j : Nat} {K : PV → Prop} : ynilK rows (.ptr id ver i j) K = withRow (rows id) ver fun _ => K (.ptr id ver i j) := rfl
theorem stepV_nil {rows : Rows} {x : PV} {K : PV → Prop} : stepV (fun v => ynil rows x v) K = ynilK rows x K := by
 simp only [ynil, ynilK]
 cases x with
 | rd l => dsimp only; rw [stepV_eq]
 | ptr id ver i j =>
  simp only [withRow]
  apply propext; simp only [stepV]
  constructor
  ·rintro ⟨v, ⟨⟨r, h1, h2⟩, rfl⟩, h3⟩; exact ⟨r, h1, h2, h3⟩
  ·rintro ⟨r, h1, h2, h3⟩; exact ⟨_, ⟨⟨r, h1, h2⟩, rfl⟩, h3⟩
 | _ => simp [stepV]
def ylenK (ti : TI) (rows : Rows) (x : PV) (K : PV → Prop) : Prop :=
 match ti with
 | .slice _ _ _ _ => match x with
  | .nil => K (.int .i64 0)
  | .sl l => K (.int .i64 l.length)
  | .slx l => K (.int .i64 l.length)
  | .own id ver _ len => withRow (rows id) ver fun _ => K (.int .i64 len)
  | _ => False
 | _ => False
@[congr] theorem ylenK_congr {t t' : TI} {rows : Rows} {x x' : PV} {K : PV → Prop} (h : t = t') (h2 : x = x') : ylenK t rows x K = ylenK t' rows x' K := by rw [h, h2]
section
variable {α : Type} {g : α → List PV} {l : List α} {e n b : Nat} {z : List PV} {rows : Rows} {K : PV → Prop} {els : List (List PV)} {id ver off len : Nat}
@[simp] theorem ylenK_sls : ylenK (.slice e n b z) rows (sls g l) K = go (K (.int .i64 l.length)) := by show _ = K _; simp [ylenK, sls, emap]
@[simp] theorem ylenK_nil : ylenK (.slice e n b z) rows .nil K = go (K (.int .i64 0)) := rfl
@[simp] theorem ylenK_sl : ylenK (.slice e n b z) rows (.sl els) K = go (K (.int .i64 els.length)) := rfl
@[simp] theorem ylenK_slx : ylenK (.slice e n b z) rows (.slx els) K = go (K (.int .i64 els.length)) := rfl
@[simp] theorem ylenK_own : ylenK (.slice e n b z) rows (.own id ver off len) K = withRow (rows id) ver fun _ => K (.int .i64 len) := rfl
end
theorem stepV_len {ti : TI} {rows : Rows} {x : PV} {K : PV → Prop} : stepV (fun v => ylenV ti rows x v) K = ylenK ti rows x K := by
 simp only [ylenV, ylenK]
 cases ti with
 | slice e n b z =>
  apply propext; simp only [stepV, ylen]
  cases x with
  | own id ver off len =>
   simp only [withRow]
   constructor
   ·rintro ⟨v, ⟨n, ⟨⟨r, h1, h2⟩, rfl⟩, rfl⟩, h4⟩; exact ⟨r, h1, h2, h4⟩
   ·rintro ⟨r, h1, h2, h4⟩; exact ⟨_, ⟨_, ⟨⟨r, h1, h2⟩, rfl⟩, rfl⟩, h4⟩
  | _ => simp
 | _ => simp [stepV]
def setEl (els : List (List PV)) (i j : Nat) (l : List PV) : List (List PV) := els.set i (((els[i]?).getD []).take j ++ l ++ ((els[i]?).getD []).drop (j + l.length))
def elLen (els : List (List PV)) (i n : Nat) : Prop := ∃ el, els[i]? = some el ∧ n ≤ el.length
def allOne (rows : Rows) (l : List PV) : Prop := ∀ q ∈ l, one1 rows q
@[simp] theorem allOne_nil {rows : Rows} : allOne rows [] = True := by simp [allOne]
@[simp] theorem allOne_cons {rows : Rows} {p : PV} {l : List PV} : allOne rows (p :: l) = (one1 rows p ∧ allOne rows l) := by simp [allOne]
@[simp] theorem elLen_emap {α : Type} [Inhabited α] {g : α → List PV} {l : List α} {i n : Nat} : elLen (emap g l) i n = (i < l.length ∧ n ≤ (g (nth l i)).length) := by
 exact ats_emap (g := g) (l := l) (i := i) (K := fun el => n ≤ el.length)
def ystoreK (E : Env) (t : TypeId) (rows : Rows) (p x : PV) (K : Nat → Row → Prop) : Prop :=
 stepA ((E.ty t).known = true) (match p with
 | .ptr id ver i j => withRow (rows id) ver fun r => optK (cellsS x) fun l => stepA (elLen r.els i (j + l.length) ∧ allOne rows l ∧ l.length = (E.ty t).size) (K id ⟨ver, r.e, r.size, setEl r.els i j l⟩)
 | _ => False)
@[congr] theorem ystoreK_congr {E : Env} {t : TypeId} {rows : Rows} {p p' x x' : PV} {K : Nat → Row → Prop} (h1 : p = p') (h2 : x = x') : ystoreK E t rows p x K = ystoreK E t rows p' x' K := by rw [h1, h2]
@[simp] theorem ystoreK_ptr {E : Env} {t : TypeId} {rows : Rows} {id ver i j : Nat} {x : PV} {K : Nat → Row → Prop} : ystoreK E t rows (.ptr id ver i j) x K = stepA ((E.ty t).known = true) (withRow (rows id) ver fun r => optK (cellsS x) fun l => stepA (elLen r.els i (j + l.length) ∧ allOne rows l ∧ l.length = (E.ty t).size) (K id ⟨ver, r.e, r.size, setEl r.els i j l⟩)) := rfl
theorem store_iff {E : Env} {t : TypeId} {rows : Rows} {p x : PV} {K : Nat → Row → Prop} : (∃ id r, ystore E t rows p x .undef (some (id, r)) ∧ K id r) = ystoreK E t rows p x K := by
 simp only [ystore, ystoreK, stepA, withRow, optK, elLen, allOne]
 apply propext
 constructor
 ·rintro ⟨id, r, ⟨h1, _, h2⟩, h3⟩
  refine ⟨h1, ?_⟩
  split at h2
  ·obtain ⟨r0, q1, q2, el, q3, l, q4, q5, q6, q7, q8⟩ := h2
   simp only [Option.some.injEq, Prod.mk.injEq] at q8
   obtain ⟨rfl, rfl⟩ := q8
   refine ⟨r0, q1, q2, l, q4, ⟨⟨el, q3, q7⟩, q5, q6⟩, ?_⟩
   simp only [setEl, q3, Option.getD_some]
   rw [q2] at h3
   exact h3
  ·exact h2.elim
 ·rintro ⟨h1, h2⟩
  split at h2
  ·obtain ⟨r0, q1, q2, l, q4, ⟨⟨el, q3, q7⟩, q5, q6⟩, h3⟩ := h2
   simp only [setEl, q3, Option.getD_some] at h3
   refine ⟨_, _, ⟨h1, trivial, r0, q1, q2, el, q3, l, q4, q5, q6, q7, rfl⟩, ?_⟩
   rw [← q2] at h3
   exact h3
  ·exact h2.elim
def ysrcK (rows : Rows) (y : PV) (K : List (List PV) → Prop) : Prop :=
 match y with
 | .nil => K []
 | .sl k => K k
 | .slx k => K k
 | .own id ver off len => withRow (rows id) ver fun r => K ((r.els.drop off).take len)
 | _ => False
@[congr] theorem ysrcK_congr {rows : Rows} {y y' : PV} {K : List (List PV) → Prop} (h : y = y') : ysrcK rows y K = ysrcK rows y' K := by rw [h]
@[simp] theorem ysrcK_nil {rows : Rows} {K : List (List PV) → Prop} : ysrcK rows .nil K = go (K []) := rfl
@[simp] theorem ysrcK_sl {rows : Rows} {l : List (List PV)} {K : List (List PV) → Prop} : ysrcK rows (.sl l) K = go (K l) := rfl
@[simp] theorem ysrcK_sls {α : Type} {g : α → List PV} {rows : Rows} {l : List α} {K : List (List PV) → Prop} : ysrcK rows (sls g l) K = go (K (emap g l)) := rfl
@[simp] theorem ysrcK_slx {rows : Rows} {l : List (List PV)} {K : List (List PV) → Prop} : ysrcK rows (.slx l) K = go (K l) := rfl
@[simp] theorem ysrcK_own {rows : Rows} {id ver off len : Nat} {K : List (List PV) → Prop} : ysrcK rows (.own id ver off len) K = withRow (rows id) ver fun r => K ((r.els.drop off).take len) := rfl
theorem src_iff {rows : Rows} {y : PV} {K : List (List PV) → Prop} : (∃ l, ysrc rows y l ∧ K l) = ysrcK rows y K := by
 simp only [ysrc, ysrcK]
 apply propext
 cases y with
 | own id ver off len =>
  simp only [withRow]
  constructor
  ·rintro ⟨l, ⟨r, h1, h2, rfl⟩, h3⟩; exact ⟨r, h1, h2, h3⟩
  ·rintro ⟨r, h1, h2, h3⟩; exact ⟨_, ⟨r, h1, h2, rfl⟩, h3⟩
 | _ => simp
def yappK (t : TI) (rows : Rows) (x y : PV) (clk d : Nat) (K : PV → Rows → Nat → Prop) : Prop :=
 match t with
 | .slice e n b _ => ysrcK rows y fun l => stepA (lenAll n l) (match x with
  | .nil => stepA (l.length ≤ room ∧ l.length * b ≤ room) (K (.own d clk 0 l.length) (upd rows d (some ⟨clk, e, n, l⟩)) (clk + 1))
  | .own id ver off len => withRow (rows id) ver fun r => stepA (off = 0 ∧ len = r.els.length ∧ r.e = e ∧ r.size = n) (stepA (len + l.length ≤ room ∧ (len + l.length) * b ≤ room) (K (.own id clk 0 (len + l.length)) (upd rows id (some ⟨clk, e, n, r.els ++ l⟩)) (clk + 1)))
  | .slx l0 => stepA (lenAll n l0 ∧ ∀ e ∈ l, ∀ p ∈ e, pers1 p = true) (stepA (l0.length + l.length ≤ room ∧ (l0.length + l.length) * b ≤ room) (K (.sl (l0 ++ l)) rows clk))
  | _ => False)
 | _ => False
@[congr] theorem yappK_congr {t t' : TI} {rows : Rows} {x x' y y' : PV} {clk d : Nat} {K : PV → Rows → Nat → Prop} (h1 : t = t') (h3 : x = x') (h4 : y = y') :
  yappK t rows x y clk d K = yappK t' rows x' y' clk d K := by rw [h1, h3, h4]
section
variable {e n b clk d id ver off len : Nat} {z : List PV} {rows : Rows} {y : PV} {K : PV → Rows → Nat → Prop} {l0 : List (List PV)}
@[simp] theorem yappK_nil : yappK (.slice e n b z) rows .nil y clk d K = ysrcK rows y fun l => stepA (lenAll n l) (stepA (l.length ≤ room ∧ l.length * b ≤ room) (K (.own d clk 0 l.length) (upd rows d (some ⟨clk, e, n, l⟩)) (clk + 1))) := rfl
@[simp] theorem yappK_own : yappK (.slice e n b z) rows (.own id ver off len) y clk d K = ysrcK rows y fun l => stepA (lenAll n l) (withRow (rows id) ver fun r => stepA (off = 0 ∧ len = r.els.length ∧ r.e = e ∧ r.size = n) (stepA (len + l.length ≤ room ∧ (len + l.length) * b ≤ room) (K (.own id clk 0 (len + l.length)) (upd rows id (some ⟨clk, e, n, r.els ++ l⟩)) (clk + 1)))) := rfl
@[simp] theorem yappK_slx : yappK (.slice e n b z) rows (.slx l0) y clk d K = ysrcK rows y fun l => stepA (lenAll n l) (stepA (lenAll n l0 ∧ ∀ e ∈ l, ∀ p ∈ e, pers1 p = true) (stepA (l0.length + l.length ≤ room ∧ (l0.length + l.length) * b ≤ room) (K (.sl (l0 ++ l)) rows clk))) := rfl
end
theorem app_iff {t : TI} {rows : Rows} {x y : PV} {clk d : Nat} {K : PV → Rows → Nat → Prop} : yapp t rows x y clk d K = yappK t rows x y clk d K := by
 unfold yapp yappK
 cases t with
 | slice e n b z =>
  dsimp only
  rw [← src_iff]
  congr 1; funext l; congr 1
  simp only [stepA, lenAll]
  congr 1
  cases x with
  | own id ver off len => simp only [withRow, and_assoc]
  | slx l0 => simp only [lenAll, and_assoc]
  | _ => rfl
 | _ => rfl
def fzR (o : Option Row) (ver off len : Nat) : PV :=
 match o with
 | some r => if r.ver = ver then .sl ((r.els.drop off).take len) else .undef
 | none => .undef
@[simp] theorem fz_own {rows : Rows} {id ver off len : Nat} : fz rows (.own id ver off len) = fzR (rows id) ver off len := rfl
@[simp] theorem fzR_emap {α : Type} {g : α → List PV} {l : List α} {ver e n off len : Nat} : fzR (some ⟨ver, e, n, emap g l⟩) ver off len = sls g ((l.drop off).take len) := by simp [fzR, sls, emap]
@[simp] theorem fz_nil {rows : Rows} : fz rows .nil = .sl [] := rfl
@[simp] theorem fz_slx {rows : Rows} {l : List (List PV)} : fz rows (.slx l) = .sl l := rfl
@[simp] theorem fz_sl {rows : Rows} {l : List (List PV)} : fz rows (.sl l) = .sl l := rfl
@[simp] theorem fz_sls {α : Type} {g : α → List PV} {rows : Rows} {l : List α} : fz rows (sls g l) = sls g l := rfl
@[simp] theorem fz_int {rows : Rows} {k : IntKind} {n : Int} : fz rows (.int k n) = .int k n := rfl
@[simp] theorem fz_bool {rows : Rows} {b : Bool} : fz rows (.bool b) = .bool b := rfl
@[simp] theorem fz_fn {rows : Rows} {f : FuncId} {l : List PV} : fz rows (.fn f l) = .fn f l := rfl
@[simp] theorem pz_own {rows : Rows} {id ver off len : Nat} : pz rows (.own id ver off len) = fzR (rows id) ver off len := rfl
@[simp] theorem pz_nil {rows : Rows} : pz rows .nil = .sl [] := rfl
@[simp] theorem pz_slx {rows : Rows} {l : List (List PV)} : pz rows (.slx l) = .sl l := rfl
@[simp] theorem pz_sl {rows : Rows} {l : List (List PV)} : pz rows (.sl l) = .sl l := rfl
@[simp] theorem pz_sls {α : Type} {g : α → List PV} {rows : Rows} {l : List α} : pz rows (sls g l) = sls g l := rfl
@[simp] theorem pz_int {rows : Rows} {k : IntKind} {n : Int} : pz rows (.int k n) = .int k n := rfl
@[simp] theorem pz_bool {rows : Rows} {b : Bool} : pz rows (.bool b) = .bool b := rfl
@[simp] theorem pz_fn {rows : Rows} {f : FuncId} {l : List PV} : pz rows (.fn f l) = .fn f l := rfl
@[simp] theorem pz_ag {rows : Rows} {l : List PV} : pz rows (.ag l) = .ag (l.map (fz rows)) := rfl
@[simp] theorem pers_sls {α : Type} {g : α → List PV} {l : List α} : pers (sls g l) = true := rfl
@[simp] theorem pers1_sls {α : Type} {g : α → List PV} {l : List α} : pers1 (sls g l) = true := rfl
@[simp] theorem ids_sls {α : Type} {g : α → List PV} {l : List α} : ids1 (sls g l) = [] := rfl
@[simp] theorem idsV_sls {α : Type} {g : α → List PV} {l : List α} : idsV (sls g l) = [] := rfl
@[simp] theorem idsV_sl {l : List (List PV)} : idsV (.sl l) = [] := rfl
@[simp] theorem idsV_slx {l : List (List PV)} : idsV (.slx l) = [] := rfl
@[simp] theorem idsV_int {k : IntKind} {n : Int} : idsV (.int k n) = [] := rfl
@[simp] theorem idsV_bool {b : Bool} : idsV (.bool b) = [] := rfl
@[simp] theorem idsV_fn {f : FuncId} {l : List PV} : idsV (.fn f l) = [] := rfl
@[simp] theorem idsV_nil : idsV .nil = [] := rfl
@[simp] theorem idsV_own {id ver off len : Nat} : idsV (.own id ver off len) = [id] := rfl
@[simp] theorem idsV_ag {l : List PV} : idsV (.ag l) = l.flatMap ids1 := rfl
@[simp] theorem one1_sls {α : Type} {g : α → List PV} {rows : Rows} {l : List α} : one1 rows (sls g l) = True := rfl
@[simp] theorem cellsS_sls {α : Type} {g : α → List PV} {l : List α} : cellsS (sls g l) = some [sls g l] := rfl
@[simp] theorem cellsP_sls {α : Type} {g : α → List PV} {l : List α} : cellsP (sls g l) = some [sls g l] := rfl
def rowPers (o : Option Row) : Prop := ∀ r, o = some r → ∀ e ∈ r.els, ∀ p ∈ e, pers1 p = true
@[simp] theorem rowsPers_nil {rows : Rows} : rowsPers rows [] = True := by simp [rowsPers]
@[simp] theorem rowsPers_cons {rows : Rows} {id : Nat} {ids : List Nat} : rowsPers rows (id :: ids) = (rowPers (rows id) ∧ rowsPers rows ids) := by simp [rowsPers, rowPers]
@[simp] theorem rowPers_none : rowPers none = True := by simp [rowPers]
@[simp] theorem rowPers_emap {α : Type} {g : α → List PV} {l : List α} {ver e n : Nat} (h : PEnc g) : rowPers (some ⟨ver, e, n, emap g l⟩) = True := by
 simp only [rowPers, emap, Option.some.injEq, eq_iff_iff, iff_true]
 rintro r rfl e he p hp
 simp at he
 obtain ⟨x, _, rfl⟩ := he
 exact List.all_eq_true.1 (h x) p hp
@[simp] theorem frR_nil {rows : Rows} : frR rows [] = rows := by funext j; simp [frR]
@[simp] theorem frR_at {rows : Rows} {ids : List Nat} {j : Nat} : frR rows ids j = if j ∈ ids then none else rows j := rfl
def fillK (fs : List (Nat × Nat × Bool)) : List (Nat × PV) → List PV → (List PV → Prop) → Prop
 | [], z, K => K z
 | (i, p) :: ps, z, K => optK (lget fs i) fun q => optK (cellsP p) fun l => stepA (l.length = q.2.1 ∧ q.1 + q.2.1 ≤ z.length) (fillK fs ps (z.take q.1 ++ l ++ z.drop (q.1 + q.2.1)) K)
@[congr] theorem fillK_congr {fs : List (Nat × Nat × Bool)} {ps ps' : List (Nat × PV)} {z z' : List PV} {K : List PV → Prop} (h : ps = ps') (h2 : z = z') : fillK fs ps z K = fillK fs ps' z' K := by rw [h, h2]
@[simp] theorem fillK_nil {fs : List (Nat × Nat × Bool)} {z : List PV} {K : List PV → Prop} : fillK fs [] z K = go (K z) := rfl
@[simp] theorem fillK_cons {fs : List (Nat × Nat × Bool)} {i : Nat} {p : PV} {ps : List (Nat × PV)} {z : List PV} {K : List PV → Prop} : fillK fs ((i, p) :: ps) z K = optK (lget fs i) fun q => optK (cellsP p) fun l => stepA (l.length = q.2.1 ∧ q.1 + q.2.1 ≤ z.length) (fillK fs ps (z.take q.1 ++ l ++ z.drop (q.1 + q.2.1)) K) := rfl
theorem fill_iff {fs : List (Nat × Nat × Bool)} : ∀ {ps : List (Nat × PV)} {z : List PV} {K : List PV → Prop}, (∃ l, fillQ fs ps z = some l ∧ K l) ↔ fillK fs ps z K
 | [], z, K => by simp [fillQ, fillK]
 | (i, p) :: ps, z, K => by
  simp only [fillQ, fillK, optK, stepA, lget]
  cases h1 : fs[i]? with
  | none => simp
  | some q =>
   obtain ⟨o, n, b⟩ := q
   cases h2 : cellsP p with
   | none => simp
   | some l =>
    simp only [Option.some.injEq, exists_eq_left']
    rw [← fill_iff]
    split
    ·rename_i h; simp [h]
    ·rename_i h; simp [h]
def ybuildK (ti : TI) (ps : List (Nat × PV)) (K : PV → Prop) : Prop :=
 match ti with
 | .struct fs z => fillK fs ps z fun l => K (.ag l)
 | .arr _ k n z => fillK (arrF k n) ps z fun l => K (.ag l)
 | _ => False
@[congr] theorem ybuildK_congr {t t' : TI} {ps ps' : List (Nat × PV)} {K : PV → Prop} (h : t = t') (h2 : ps = ps') : ybuildK t ps K = ybuildK t' ps' K := by rw [h, h2]
@[simp] theorem ybuildK_struct {fs : List (Nat × Nat × Bool)} {z : List PV} {ps : List (Nat × PV)} {K : PV → Prop} : ybuildK (.struct fs z) ps K = fillK fs ps z fun l => K (.ag l) := rfl
@[simp] theorem ybuildK_arr {e k n : Nat} {z : List PV} {ps : List (Nat × PV)} {K : PV → Prop} : ybuildK (.arr e k n z) ps K = fillK (arrF k n) ps z fun l => K (.ag l) := rfl
@[simp] theorem lget_arrF {k n i : Nat} : lget (arrF k n) i = if i < k then some (i * n, n, false) else none := by
 unfold lget arrF
 rw [List.getElem?_map]
 split
 ·rename_i h; rw [List.getElem?_range h]; rfl
 ·rename_i h; rw [List.getElem?_eq_none (by simpa using h)]; rfl
theorem stepV_build {ti : TI} {ps : List (Nat × PV)} {K : PV → Prop} : stepV (fun v => ybuild ti ps v) K = ybuildK ti ps K := by
 simp only [ybuild, ybuildK]
 cases ti with
 | struct fs z =>
  apply propext; simp only [stepV]
  rw [← fill_iff]
  constructor
  ·rintro ⟨v, ⟨l, h1, rfl⟩, h2⟩; exact ⟨l, h1, h2⟩
  ·rintro ⟨l, h1, h2⟩; exact ⟨_, ⟨l, h1, rfl⟩, h2⟩
 | arr e k n z =>
  apply propext; simp only [stepV]
  rw [← fill_iff]
  constructor
  ·rintro ⟨v, ⟨l, h1, rfl⟩, h2⟩; exact ⟨l, h1, h2⟩
  ·rintro ⟨l, h1, h2⟩; exact ⟨_, ⟨l, h1, rfl⟩, h2⟩
 | _ => simp [stepV]
def partsK (n : Nat) : Nat → List (Nat × PV) → (List (List PV) → Prop) → Prop
 | _, [], K => K []
 | k, (i, p) :: ps, K => optK (cellsS p) fun l => stepA (i = k ∧ l.length = n) (partsK n (k + 1) ps fun els => K (l :: els))
@[congr] theorem partsK_congr {n k : Nat} {ps ps' : List (Nat × PV)} {K : List (List PV) → Prop} (h : ps = ps') : partsK n k ps K = partsK n k ps' K := by rw [h]
@[simp] theorem partsK_nil {n k : Nat} {K : List (List PV) → Prop} : partsK n k [] K = go (K []) := rfl
@[simp] theorem partsK_cons {n k i : Nat} {p : PV} {ps : List (Nat × PV)} {K : List (List PV) → Prop} : partsK n k ((i, p) :: ps) K = optK (cellsS p) fun l => stepA (i = k ∧ l.length = n) (partsK n (k + 1) ps fun els => K (l :: els)) := rfl
theorem parts_iff {n : Nat} : ∀ {ps : List (Nat × PV)} {k : Nat} {K : List (List PV) → Prop}, (∃ l, partsEls n k ps = some l ∧ K l) ↔ partsK n k ps K
 | [], k, K => by simp [partsEls, partsK]
 | (i, p) :: ps, k, K => by
  simp only [partsEls, partsK, optK, stepA]
  cases h2 : cellsS p with
  | none => simp
  | some l =>
   simp only [Option.some.injEq, exists_eq_left']
   rw [← parts_iff]
   by_cases h : i = k ∧ l.length = n
   ·rw [if_pos h]
    constructor
    ·rintro ⟨e, h1, h3⟩
     obtain ⟨e', h4, rfl⟩ := Option.map_eq_some_iff.1 h1
     exact ⟨h, e', h4, h3⟩
    ·rintro ⟨_, e', h4, h3⟩
     exact ⟨_, by rw [h4]; rfl, h3⟩
   ·rw [if_neg h]; simp [h]
def litOK (rows : Rows) (els : List (List PV)) : Prop := (∀ e ∈ els, ∀ p ∈ e, pers1 (fz rows p) = true ∧ one1 rows p) ∧ (∀ e ∈ els, ∀ p ∈ e, ids1 p = [])
@[simp] theorem litOK_nil {rows : Rows} : litOK rows [] = True := by simp [litOK]
@[simp] theorem litOK_cons {rows : Rows} {e : List PV} {els : List (List PV)} : litOK rows (e :: els) = ((∀ p ∈ e, pers1 (fz rows p) = true ∧ one1 rows p ∧ ids1 p = []) ∧ litOK rows els) := by
 simp only [litOK, List.mem_cons, forall_eq_or_imp, eq_iff_iff]
 constructor
 ·rintro ⟨⟨h1, h2⟩, h3, h4⟩; exact ⟨fun p hp => ⟨(h1 p hp).1, (h1 p hp).2, h3 p hp⟩, h2, h4⟩
 ·rintro ⟨h1, h2, h4⟩; exact ⟨⟨fun p hp => ⟨(h1 p hp).1, (h1 p hp).2.1⟩, h2⟩, fun p hp => (h1 p hp).2.2, h4⟩
def ylitK (ti : TI) (rows : Rows) (len : Nat) (ps : List (Nat × PV)) (K : PV → Prop) : Prop :=
 match ti with
 | .slice _ n _ _ => partsK n 0 ps fun els => stepA (len = els.length ∧ len ≤ 4096 ∧ n ≤ 4096 ∧ litOK rows els) (K (.slx (els.map fun e => e.map (fz rows))))
 | _ => False
@[congr] theorem ylitK_congr {t t' : TI} {rows : Rows} {len : Nat} {ps ps' : List (Nat × PV)} {K : PV → Prop} (h : t = t') (h2 : ps = ps') : ylitK t rows len ps K = ylitK t' rows len ps' K := by rw [h, h2]
@[simp] theorem ylitK_slice {e n b : Nat} {z : List PV} {rows : Rows} {len : Nat} {ps : List (Nat × PV)} {K : PV → Prop} : ylitK (.slice e n b z) rows len ps K = partsK n 0 ps fun els => stepA (len = els.length ∧ len ≤ 4096 ∧ n ≤ 4096 ∧ litOK rows els) (K (.slx (els.map fun e => e.map (fz rows)))) := rfl
theorem stepV_lit {ti : TI} {rows : Rows} {len : Nat} {ps : List (Nat × PV)} {K : PV → Prop} : stepV (fun v => ylit ti rows len ps v) K = ylitK ti rows len ps K := by
 simp only [ylit, ylitK]
 cases ti with
 | slice e n b z =>
  apply propext; simp only [stepV]
  rw [← parts_iff]
  constructor
  ·rintro ⟨v, ⟨l, h1, h2, h3, h4, h5, h6, rfl⟩, h7⟩; exact ⟨l, h1, ⟨h2, h3, h4, h5, h6⟩, h7⟩
  ·rintro ⟨l, h1, ⟨h2, h3, h4, h5, h6⟩, h7⟩; exact ⟨_, ⟨l, h1, h2, h3, h4, h5, h6, rfl⟩, h7⟩
 | _ => simp [stepV]
def yextK (i : Nat) (x : PV) (K : PV → Prop) : Prop :=
 match x with
 | .tup l => optK (lget l i) K
 | _ => False
@[congr] theorem yextK_congr {i : Nat} {x x' : PV} {K : PV → Prop} (h : x = x') : yextK i x K = yextK i x' K := by rw [h]
@[simp] theorem yextK_tup {i : Nat} {l : List PV} {K : PV → Prop} : yextK i (.tup l) K = optK (lget l i) K := rfl
theorem stepV_ext {i : Nat} {x : PV} {K : PV → Prop} : stepV (fun v => yext i x v) K = yextK i x K := by
 simp only [yext, yextK]
 cases x <;> first | rfl | simp [stepV]
end Pm
namespace Pm
open Go Go.RowKit
def gdst : List Oper → Nat → Option Tmp
 | [], _ => none
 | o :: _, 0 => o.dst
 | _ :: os, n + 1 => gdst os n
theorem gdst_eq : ∀ (ops : List Oper) (j : Nat), gdst ops j = (ops[j]?).bind (·.dst)
 | [], j => by simp [gdst]
 | o :: os, 0 => by simp [gdst]
 | o :: os, n + 1 => by simp [gdst, gdst_eq os n]
@[simp] theorem gdst_zero {d : Option Tmp} {op : Op} {ty : TypeId} {pos : String} {af : Array Edge} {g : Option (Nat × Bool)} {os : List Oper} : gdst (⟨d, op, ty, pos, af, g⟩ :: os) 0 = d := rfl
@[simp] theorem gdst_succ {o : Oper} {os : List Oper} {n : Nat} : gdst (o :: os) (n + 1) = gdst os n := rfl
def guardK (o : Option Tmp) (f : Nat → PV) (w : Bool) (A B : Prop) : Prop :=
 match o with
 | none => False
 | some e => stepG (f e) w A B
@[congr] theorem guardK_congr {o o' : Option Tmp} {f : Nat → PV} {w : Bool} {A B : Prop} (h : o = o') : guardK o f w A B = guardK o' f w A B := by rw [h]
@[simp] theorem guardK_some {e : Tmp} {f : Nat → PV} {w : Bool} {A B : Prop} : guardK (some e) f w A B = stepG (f e) w A B := rfl
@[simp] theorem go_guardK {o : Option Tmp} {f : Nat → PV} {w : Bool} {A B : Prop} : go (guardK o f w A B) = guardK o f w A B := rfl
section
variable {E : Env} {ops os : List Oper} {K : PS → Prop} {f : Nat → PV} {rows : Rows} {clk : Nat} {d : Option Tmp} {ty : TypeId} {pos : String} {af : Array Edge} {k : Nat} {tch : Nat → Nat → Prop} {pend : Nat → Nat → Prop}
theorem pops_guard' {op : Op} {j : Nat} {want : Bool} : pops E ops (⟨d, op, ty, pos, af, some (j, want)⟩ :: os) K ⟨f, rows, clk⟩ = guardK ((ops[j]?).bind (·.dst)) f want (pops E ops (⟨d, op, ty, pos, af, none⟩ :: os) K ⟨f, rows, clk⟩) (pops E ops os K ⟨put f d (.tup []), rows, clk⟩) := pops_guard
theorem pstr_guard' {op : Op} {j : Nat} {want : Bool} : pstr E ops clk k (⟨d, op, ty, pos, af, some (j, want)⟩ :: os) K ⟨f, rows, tch, pend⟩ = guardK ((ops[j]?).bind (·.dst)) f want (pstr E ops clk k (⟨d, op, ty, pos, af, none⟩ :: os) K ⟨f, rows, tch, pend⟩) (pstr E ops clk (k + 1) os K ⟨put f d (.tup []), rows, tch, pend⟩) := pstr_guard
end
section
variable {E : Env} {ops os : List Oper} {K : PS → Prop} {f : Nat → PV} {rows : Rows} {clk : Nat} {d : Option Tmp} {ty : TypeId} {pos : String} {af : Array Edge} {k : Nat} {tch : Nat → Nat → Prop} {pend : Nat → Nat → Prop}
theorem pops_load' {t : TypeId} {x : Operand} : pops E ops (⟨d, .load t x, ty, pos, af, none⟩ :: os) K ⟨f, rows, clk⟩ = yloadK E t rows (evf f x) fun v => pops E ops os K ⟨put f d v, rows, clk⟩ := by rw [pops_load, stepV_load]
theorem pops_field' {t : TypeId} {i : Nat} {x : Operand} : pops E ops (⟨d, .field t x i, ty, pos, af, none⟩ :: os) K ⟨f, rows, clk⟩ = yfieldK (E.ty t) i (evf f x) fun v => pops E ops os K ⟨put f d v, rows, clk⟩ := by rw [pops_field, stepV_field]
theorem pops_fieldAddr' {t : TypeId} {i : Nat} {x : Operand} : pops E ops (⟨d, .fieldAddr t x i, ty, pos, af, none⟩ :: os) K ⟨f, rows, clk⟩ = yfieldAddrK (E.ty t) rows i (evf f x) fun v => pops E ops os K ⟨put f d v, rows, clk⟩ := by rw [pops_fieldAddr, stepV_fieldAddr]
theorem pops_indexAddr' {t : TypeId} {x y : Operand} : pops E ops (⟨d, .indexAddr t x y, ty, pos, af, none⟩ :: os) K ⟨f, rows, clk⟩ = yindexAddrK (E.ty t) rows (evf f x) (evf f y) fun v => pops E ops os K ⟨put f d v, rows, clk⟩ := by rw [pops_indexAddr, stepV_indexAddr]
theorem pops_slice' {t : TypeId} {x : Operand} {lo hi mx : Option Operand} : pops E ops (⟨d, .slice t x lo hi mx, ty, pos, af, none⟩ :: os) K ⟨f, rows, clk⟩ = ysliceK (E.ty t) rows (evf f x) (lo.map (evf f)) (hi.map (evf f)) (mx.map (evf f)) fun v => pops E ops os K ⟨put f d v, rows, clk⟩ := by rw [pops_slice, stepV_slice]
theorem pops_len' {t : TypeId} {x : Operand} : pops E ops (⟨d, .call { callee := .builtin .len, args := ⟨[x]⟩, argTypes := ⟨[t]⟩ }, ty, pos, af, none⟩ :: os) K ⟨f, rows, clk⟩ = ylenK (E.ty t) rows (evf f x) fun v => pops E ops os K ⟨put f d v, rows, clk⟩ := by rw [pops_len, stepV_len]
theorem pops_store' {t : TypeId} {p x : Operand} : pops E ops (⟨none, .store t p x, ty, pos, af, none⟩ :: os) K ⟨f, rows, clk⟩ = ystoreK E t rows (evf f p) (evf f x) fun id r => pops E ops os K ⟨f, upd rows id (some r), clk⟩ := by rw [pops_store, store_iff]
theorem pops_append' {t t2 : TypeId} {x y : Operand} : pops E ops (⟨d, .call { callee := .builtin .append, args := ⟨[x, y]⟩, argTypes := ⟨[t, t2]⟩ }, ty, pos, af, none⟩ :: os) K ⟨f, rows, clk⟩ =
  stepA (t2 = t ∨ slT (E.ty t2) = true) (yappK (E.ty t) rows (evf f x) (evf f y) clk (d.getD 0) fun v rows clk => pops E ops os K ⟨put f d v, rows, clk⟩) := by rw [pops_append, app_iff]
theorem pstr_load' {t : TypeId} {x : Operand} : pstr E ops clk k (⟨d, .load t x, ty, pos, af, none⟩ :: os) K ⟨f, rows, tch, pend⟩ = yloadK E t (vrow .any ops k pend rows) (evf f x) fun v => pstr E ops clk (k + 1) os K ⟨put f d v, rows, tadd k (ids1 (evf f x)) tch, pend⟩ := by rw [pstr_load, stepV_load]
theorem pstr_field' {t : TypeId} {i : Nat} {x : Operand} : pstr E ops clk k (⟨d, .field t x i, ty, pos, af, none⟩ :: os) K ⟨f, rows, tch, pend⟩ = yfieldK (E.ty t) i (evf f x) fun v => pstr E ops clk (k + 1) os K ⟨put f d v, rows, tch, pend⟩ := by rw [pstr_field, stepV_field]
theorem pstr_fieldAddr' {t : TypeId} {i : Nat} {x : Operand} : pstr E ops clk k (⟨d, .fieldAddr t x i, ty, pos, af, none⟩ :: os) K ⟨f, rows, tch, pend⟩ = yfieldAddrK (E.ty t) (vrow .any ops k pend rows) i (evf f x) fun v => pstr E ops clk (k + 1) os K ⟨put f d v, rows, tadd k (ids1 (evf f x)) tch, pend⟩ := by rw [pstr_fieldAddr, stepV_fieldAddr]
theorem pstr_indexAddr' {t : TypeId} {x y : Operand} : pstr E ops clk k (⟨d, .indexAddr t x y, ty, pos, af, none⟩ :: os) K ⟨f, rows, tch, pend⟩ = yindexAddrK (E.ty t) (vrow .any ops k pend rows) (evf f x) (evf f y) fun v => pstr E ops clk (k + 1) os K ⟨put f d v, rows, tadd k (ids1 (evf f x)) tch, pend⟩ := by rw [pstr_indexAddr, stepV_indexAddr]
theorem pstr_slice' {t : TypeId} {x : Operand} {lo hi mx : Option Operand} : pstr E ops clk k (⟨d, .slice t x lo hi mx, ty, pos, af, none⟩ :: os) K ⟨f, rows, tch, pend⟩ = ysliceK (E.ty t) (vrow .any ops k pend rows) (evf f x) (lo.map (evf f)) (hi.map (evf f)) (mx.map (evf f)) fun v => pstr E ops clk (k + 1) os K ⟨put f d v, rows, tadd k (ids1 (evf f x)) tch, pend⟩ := by rw [pstr_slice, stepV_slice]
theorem pstr_len' {t : TypeId} {x : Operand} : pstr E ops clk k (⟨d, .call { callee := .builtin .len, args := ⟨[x]⟩, argTypes := ⟨[t]⟩ }, ty, pos, af, none⟩ :: os) K ⟨f, rows, tch, pend⟩ = ylenK (E.ty t) (vrow .any ops k pend rows) (evf f x) fun v => pstr E ops clk (k + 1) os K ⟨put f d v, rows, tadd k (ids1 (evf f x)) tch, pend⟩ := by rw [pstr_len, stepV_len]
theorem pstr_store' {t : TypeId} {p x : Operand} : pstr E ops clk k (⟨none, .store t p x, ty, pos, af, none⟩ :: os) K ⟨f, rows, tch, pend⟩ =
  ystoreK E t (vrow .any ops k pend rows) (evf f p) (evf f x) fun id r => stepA (okT .any ops k id tch) (pstr E ops clk (k + 1) os K ⟨f, upd rows id (some r), tadd k (ids1 (evf f p) ++ ((cellsS (evf f x)).getD []).flatMap ids1) tch, wadd k id pend⟩) := by rw [pstr_store, ← store_iff]; rfl
theorem go_move {x : Operand} : go (pops E ops (⟨d, .move x, ty, pos, af, none⟩ :: os) K ⟨f, rows, clk⟩) = go (pops E ops os K ⟨put f d (evf f x), rows, clk⟩) := pops_move
theorem go_assign {x : Operand} : go (pops E ops (⟨d, .assign x, ty, pos, af, none⟩ :: os) K ⟨f, rows, clk⟩) = go (pops E ops os K ⟨put f d (evf f x), rows, clk⟩) := pops_assign
theorem go_pick {c a b : Operand} : go (pops E ops (⟨d, .pick c a b, ty, pos, af, none⟩ :: os) K ⟨f, rows, clk⟩) = stepB (evf f c) true (pops E ops os K ⟨put f d (evf f a), rows, clk⟩) (pops E ops os K ⟨put f d (evf f b), rows, clk⟩) := pops_pick
theorem go_bin {op : BinOp} {t t2 : TypeId} {x y : Operand} : go (pops E ops (⟨d, .binOp op t x y t2, ty, pos, af, none⟩ :: os) K ⟨f, rows, clk⟩) = stepV (fun v => ybin E op t (evf f x) (evf f y) v) fun v => pops E ops os K ⟨put f d v, rows, clk⟩ := pops_bin
theorem go_un {op : UnOp} {t : TypeId} {x : Operand} : go (pops E ops (⟨d, .unOp op t x, ty, pos, af, none⟩ :: os) K ⟨f, rows, clk⟩) = stepV (fun v => yun op (evf f x) v) fun v => pops E ops os K ⟨put f d v, rows, clk⟩ := pops_un
theorem go_conv {s t : TypeId} {x : Operand} : go (pops E ops (⟨d, .convert s t x, ty, pos, af, none⟩ :: os) K ⟨f, rows, clk⟩) = stepV (fun v => yconv (E.ty s) (E.ty t) (evf f x) v) fun v => pops E ops os K ⟨put f d v, rows, clk⟩ := pops_conv
theorem go_extract {i : Nat} {x : Operand} : go (pops E ops (⟨d, .extract x i, ty, pos, af, none⟩ :: os) K ⟨f, rows, clk⟩) = yextK i (evf f x) fun v => pops E ops os K ⟨put f d v, rows, clk⟩ := by
 show pops E ops (⟨d, .extract x i, ty, pos, af, none⟩ :: os) K ⟨f, rows, clk⟩ = _
 rw [pops_extract, stepV_ext]
theorem go_load {t : TypeId} {x : Operand} : go (pops E ops (⟨d, .load t x, ty, pos, af, none⟩ :: os) K ⟨f, rows, clk⟩) = yloadK E t rows (evf f x) fun v => pops E ops os K ⟨put f d v, rows, clk⟩ := pops_load'
theorem go_field {t : TypeId} {i : Nat} {x : Operand} : go (pops E ops (⟨d, .field t x i, ty, pos, af, none⟩ :: os) K ⟨f, rows, clk⟩) = yfieldK (E.ty t) i (evf f x) fun v => pops E ops os K ⟨put f d v, rows, clk⟩ := pops_field'
theorem go_fieldAddr {t : TypeId} {i : Nat} {x : Operand} : go (pops E ops (⟨d, .fieldAddr t x i, ty, pos, af, none⟩ :: os) K ⟨f, rows, clk⟩) = yfieldAddrK (E.ty t) rows i (evf f x) fun v => pops E ops os K ⟨put f d v, rows, clk⟩ := pops_fieldAddr'
theorem go_indexAddr {t : TypeId} {x y : Operand} : go (pops E ops (⟨d, .indexAddr t x y, ty, pos, af, none⟩ :: os) K ⟨f, rows, clk⟩) = yindexAddrK (E.ty t) rows (evf f x) (evf f y) fun v => pops E ops os K ⟨put f d v, rows, clk⟩ := pops_indexAddr'
theorem go_slice {t : TypeId} {x : Operand} {lo hi mx : Option Operand} : go (pops E ops (⟨d, .slice t x lo hi mx, ty, pos, af, none⟩ :: os) K ⟨f, rows, clk⟩) = ysliceK (E.ty t) rows (evf f x) (lo.map (evf f)) (hi.map (evf f)) (mx.map (evf f)) fun v => pops E ops os K ⟨put f d v, rows, clk⟩ := pops_slice'
theorem go_build {t : TypeId} {parts : Array (Nat × Operand)} : go (pops E ops (⟨d, .build t parts, ty, pos, af, none⟩ :: os) K ⟨f, rows, clk⟩) = ybuildK (E.ty t) (parts.toList.map fun x => (x.1, evf f x.2)) fun v => pops E ops os K ⟨put f d v, rows, clk⟩ := by
 show pops E ops (⟨d, .build t parts, ty, pos, af, none⟩ :: os) K ⟨f, rows, clk⟩ = _
 rw [pops_build, stepV_build]
theorem go_index {t : TypeId} {x y : Operand} : go (pops E ops (⟨d, .index t x y, ty, pos, af, none⟩ :: os) K ⟨f, rows, clk⟩) = stepV (fun v => yindex (E.ty t) (evf f x) (evf f y) v) fun v => pops E ops os K ⟨put f d v, rows, clk⟩ := pops_index
theorem go_nilCheck {x : Operand} : go (pops E ops (⟨d, .nilCheck x, ty, pos, af, none⟩ :: os) K ⟨f, rows, clk⟩) = ynilK rows (evf f x) fun v => pops E ops os K ⟨put f d v, rows, clk⟩ := by show pops E ops _ K _ = _; rw [pops_nilCheck, stepV_nil]
theorem go_len {t : TypeId} {x : Operand} : go (pops E ops (⟨d, .call { callee := .builtin .len, args := ⟨[x]⟩, argTypes := ⟨[t]⟩ }, ty, pos, af, none⟩ :: os) K ⟨f, rows, clk⟩) = ylenK (E.ty t) rows (evf f x) fun v => pops E ops os K ⟨put f d v, rows, clk⟩ := pops_len'
theorem go_max {ts : Array TypeId} {x y : Operand} : go (pops E ops (⟨d, .call { callee := .builtin .max, args := ⟨[x, y]⟩, argTypes := ts }, ty, pos, af, none⟩ :: os) K ⟨f, rows, clk⟩) = stepV (fun v => ymax (evf f x) (evf f y) v) fun v => pops E ops os K ⟨put f d v, rows, clk⟩ := pops_max
theorem go_min {ts : Array TypeId} {x y : Operand} : go (pops E ops (⟨d, .call { callee := .builtin .min, args := ⟨[x, y]⟩, argTypes := ts }, ty, pos, af, none⟩ :: os) K ⟨f, rows, clk⟩) = stepV (fun v => ymin (evf f x) (evf f y) v) fun v => pops E ops os K ⟨put f d v, rows, clk⟩ := pops_min
theorem go_buildSlice {t : TypeId} {len : Nat} {parts : Array (Nat × Operand)} : go (pops E ops (⟨d, .buildSlice t len parts, ty, pos, af, none⟩ :: os) K ⟨f, rows, clk⟩) = ylitK (E.ty t) rows len (parts.toList.map fun x => (x.1, evf f x.2)) fun v => pops E ops os K ⟨put f d v, rows, clk⟩ := by
 show pops E ops (⟨d, .buildSlice t len parts, ty, pos, af, none⟩ :: os) K ⟨f, rows, clk⟩ = _
 rw [pops_buildSlice, stepV_lit]
theorem go_store {t : TypeId} {p x : Operand} : go (pops E ops (⟨none, .store t p x, ty, pos, af, none⟩ :: os) K ⟨f, rows, clk⟩) = ystoreK E t rows (evf f p) (evf f x) fun id r => pops E ops os K ⟨f, upd rows id (some r), clk⟩ := pops_store'
theorem go_alloc {t : TypeId} : go (pops E ops (⟨d, .alloc t, ty, pos, af, none⟩ :: os) K ⟨f, rows, clk⟩) = stepA ((E.ty t).known = true) (pops E ops os K ⟨put f d (.ptr (d.getD 0) clk 0 0), upd rows (d.getD 0) (some ⟨clk, t, (E.ty t).size, [(E.ty t).zero]⟩), clk + 1⟩) := pops_alloc
theorem go_box {t : TypeId} {x : Operand} : go (pops E ops (⟨d, .box t x, ty, pos, af, none⟩ :: os) K ⟨f, rows, clk⟩) = stepA ((E.ty t).known = true) (optK (cellsS (evf f x)) fun l => stepA (allOne rows l ∧ l.length = (E.ty t).size) (pops E ops os K ⟨put f d (.ptr (d.getD 0) clk 0 0), upd rows (d.getD 0) (some ⟨clk, t, (E.ty t).size, [l]⟩), clk + 1⟩)) := by
 show pops E ops (⟨d, .box t x, ty, pos, af, none⟩ :: os) K ⟨f, rows, clk⟩ = _
 rw [pops_box]
 simp only [stepA, optK, allOne, and_assoc]
theorem go_makeSlice {t : TypeId} {l c : Operand} : go (pops E ops (⟨d, .makeSlice t l c, ty, pos, af, none⟩ :: os) K ⟨f, rows, clk⟩) = ymake (E.ty t) (evf f l) (evf f c) fun e n z x => pops E ops os K ⟨put f d (.own (d.getD 0) clk 0 x.toNat), upd rows (d.getD 0) (some ⟨clk, e, n, List.replicate x.toNat z⟩), clk + 1⟩ := pops_makeSlice
theorem go_append {t t2 : TypeId} {x y : Operand} : go (pops E ops (⟨d, .call { callee := .builtin .append, args := ⟨[x, y]⟩, argTypes := ⟨[t, t2]⟩ }, ty, pos, af, none⟩ :: os) K ⟨f, rows, clk⟩) = stepA (t2 = t ∨ slT (E.ty t2) = true) (yappK (E.ty t) rows (evf f x) (evf f y) clk (d.getD 0) fun v rows clk => pops E ops os K ⟨put f d v, rows, clk⟩) := pops_append'
theorem go_call {fo : Operand} {args : Array Operand} {ts : Array TypeId} : go (pops E ops (⟨d, .call { callee := .value fo, args := args, argTypes := ts }, ty, pos, af, none⟩ :: os) K ⟨f, rows, clk⟩) = ycallK E (evf f fo) (args.toList.map (evf f)) rows clk fun v rows clk => pops E ops os K ⟨put f d v, rows, clk⟩ := pops_call
theorem go_makeFunc {g : FuncId} {caps : Array Operand} : go (pops E ops (⟨d, .makeFunc (.func g) ⟨[]⟩ caps, ty, pos, af, none⟩ :: os) K ⟨f, rows, clk⟩) = stepA (((caps.toList.map (evf f)).map (pz rows)).all pers = true ∧ rowsPers rows ((caps.toList.map (evf f)).flatMap idsV))
      (pops E ops os K ⟨put f d (.fn g ((caps.toList.map (evf f)).map (pz rows))), frR rows ((caps.toList.map (evf f)).flatMap idsV), clk⟩) := pops_makeFunc
theorem go_guard {op : Op} {j : Nat} {want : Bool} : go (pops E ops (⟨d, op, ty, pos, af, some (j, want)⟩ :: os) K ⟨f, rows, clk⟩) = guardK (gdst ops j) f want (pops E ops (⟨d, op, ty, pos, af, none⟩ :: os) K ⟨f, rows, clk⟩) (pops E ops os K ⟨put f d (.tup []), rows, clk⟩) := by
 rw [gdst_eq, ← pops_guard']; rfl
theorem gs_move {x : Operand} : go (pstr E ops clk k (⟨d, .move x, ty, pos, af, none⟩ :: os) K ⟨f, rows, tch, pend⟩) = go (pstr E ops clk (k + 1) os K ⟨put f d (evf f x), rows, tch, pend⟩) := pstr_move
theorem gs_assign {x : Operand} : go (pstr E ops clk k (⟨d, .assign x, ty, pos, af, none⟩ :: os) K ⟨f, rows, tch, pend⟩) = go (pstr E ops clk (k + 1) os K ⟨put f d (evf f x), rows, tch, pend⟩) := pstr_assign
theorem gs_pick {c a b : Operand} : go (pstr E ops clk k (⟨d, .pick c a b, ty, pos, af, none⟩ :: os) K ⟨f, rows, tch, pend⟩) = stepB (evf f c) true (pstr E ops clk (k + 1) os K ⟨put f d (evf f a), rows, tch, pend⟩) (pstr E ops clk (k + 1) os K ⟨put f d (evf f b), rows, tch, pend⟩) := pstr_pick
theorem gs_bin {op : BinOp} {t t2 : TypeId} {x y : Operand} : go (pstr E ops clk k (⟨d, .binOp op t x y t2, ty, pos, af, none⟩ :: os) K ⟨f, rows, tch, pend⟩) = stepV (fun v => ybin E op t (evf f x) (evf f y) v) fun v => pstr E ops clk (k + 1) os K ⟨put f d v, rows, tch, pend⟩ := pstr_bin
theorem gs_un {op : UnOp} {t : TypeId} {x : Operand} : go (pstr E ops clk k (⟨d, .unOp op t x, ty, pos, af, none⟩ :: os) K ⟨f, rows, tch, pend⟩) = stepV (fun v => yun op (evf f x) v) fun v => pstr E ops clk (k + 1) os K ⟨put f d v, rows, tch, pend⟩ := pstr_un
theorem gs_conv {s t : TypeId} {x : Operand} : go (pstr E ops clk k (⟨d, .convert s t x, ty, pos, af, none⟩ :: os) K ⟨f, rows, tch, pend⟩) = stepV (fun v => yconv (E.ty s) (E.ty t) (evf f x) v) fun v => pstr E ops clk (k + 1) os K ⟨put f d v, rows, tch, pend⟩ := pstr_conv
theorem gs_extract {i : Nat} {x : Operand} : go (pstr E ops clk k (⟨d, .extract x i, ty, pos, af, none⟩ :: os) K ⟨f, rows, tch, pend⟩) = yextK i (evf f x) fun v => pstr E ops clk (k + 1) os K ⟨put f d v, rows, tch, pend⟩ := by
 show pstr E ops clk k (⟨d, .extract x i, ty, pos, af, none⟩ :: os) K ⟨f, rows, tch, pend⟩ = _
 rw [pstr_extract, stepV_ext]
theorem gs_load {t : TypeId} {x : Operand} : go (pstr E ops clk k (⟨d, .load t x, ty, pos, af, none⟩ :: os) K ⟨f, rows, tch, pend⟩) = yloadK E t (vrow .any ops k pend rows) (evf f x) fun v => pstr E ops clk (k + 1) os K ⟨put f d v, rows, tadd k (ids1 (evf f x)) tch, pend⟩ := pstr_load'
theorem gs_field {t : TypeId} {i : Nat} {x : Operand} : go (pstr E ops clk k (⟨d, .field t x i, ty, pos, af, none⟩ :: os) K ⟨f, rows, tch, pend⟩) = yfieldK (E.ty t) i (evf f x) fun v => pstr E ops clk (k + 1) os K ⟨put f d v, rows, tch, pend⟩ := pstr_field'
theorem gs_fieldAddr {t : TypeId} {i : Nat} {x : Operand} : go (pstr E ops clk k (⟨d, .fieldAddr t x i, ty, pos, af, none⟩ :: os) K ⟨f, rows, tch, pend⟩) = yfieldAddrK (E.ty t) (vrow .any ops k pend rows) i (evf f x) fun v => pstr E ops clk (k + 1) os K ⟨put f d v, rows, tadd k (ids1 (evf f x)) tch, pend⟩ := pstr_fieldAddr'
theorem gs_indexAddr {t : TypeId} {x y : Operand} : go (pstr E ops clk k (⟨d, .indexAddr t x y, ty, pos, af, none⟩ :: os) K ⟨f, rows, tch, pend⟩) = yindexAddrK (E.ty t) (vrow .any ops k pend rows) (evf f x) (evf f y) fun v => pstr E ops clk (k + 1) os K ⟨put f d v, rows, tadd k (ids1 (evf f x)) tch, pend⟩ := pstr_indexAddr'
theorem gs_slice {t : TypeId} {x : Operand} {lo hi mx : Option Operand} : go (pstr E ops clk k (⟨d, .slice t x lo hi mx, ty, pos, af, none⟩ :: os) K ⟨f, rows, tch, pend⟩) = ysliceK (E.ty t) (vrow .any ops k pend rows) (evf f x) (lo.map (evf f)) (hi.map (evf f)) (mx.map (evf f)) fun v => pstr E ops clk (k + 1) os K ⟨put f d v, rows, tadd k (ids1 (evf f x)) tch, pend⟩ := pstr_slice'
theorem gs_build {t : TypeId} {parts : Array (Nat × Operand)} : go (pstr E ops clk k (⟨d, .build t parts, ty, pos, af, none⟩ :: os) K ⟨f, rows, tch, pend⟩) = ybuildK (E.ty t) (parts.toList.map fun x => (x.1, evf f x.2)) fun v => pstr E ops clk (k + 1) os K ⟨put f d v, rows, tch, pend⟩ := by
 show pstr E ops clk k (⟨d, .build t parts, ty, pos, af, none⟩ :: os) K ⟨f, rows, tch, pend⟩ = _
 rw [pstr_build, stepV_build]
theorem gs_nilCheck {x : Operand} : go (pstr E ops clk k (⟨d, .nilCheck x, ty, pos, af, none⟩ :: os) K ⟨f, rows, tch, pend⟩) = ynilK (vrow .any ops k pend rows) (evf f x) fun v => pstr E ops clk (k + 1) os K ⟨put f d v, rows, tadd k (ids1 (evf f x)) tch, pend⟩ := by show pstr E ops clk k _ K _ = _; rw [pstr_nilCheck, stepV_nil]
theorem gs_len {t : TypeId} {x : Operand} : go (pstr E ops clk k (⟨d, .call { callee := .builtin .len, args := ⟨[x]⟩, argTypes := ⟨[t]⟩ }, ty, pos, af, none⟩ :: os) K ⟨f, rows, tch, pend⟩) = ylenK (E.ty t) (vrow .any ops k pend rows) (evf f x) fun v => pstr E ops clk (k + 1) os K ⟨put f d v, rows, tadd k (ids1 (evf f x)) tch, pend⟩ := pstr_len'
theorem gs_max {ts : Array TypeId} {x y : Operand} : go (pstr E ops clk k (⟨d, .call { callee := .builtin .max, args := ⟨[x, y]⟩, argTypes := ts }, ty, pos, af, none⟩ :: os) K ⟨f, rows, tch, pend⟩) = stepV (fun v => ymax (evf f x) (evf f y) v) fun v => pstr E ops clk (k + 1) os K ⟨put f d v, rows, tch, pend⟩ := pstr_max
theorem gs_min {ts : Array TypeId} {x y : Operand} : go (pstr E ops clk k (⟨d, .call { callee := .builtin .min, args := ⟨[x, y]⟩, argTypes := ts }, ty, pos, af, none⟩ :: os) K ⟨f, rows, tch, pend⟩) = stepV (fun v => ymin (evf f x) (evf f y) v) fun v => pstr E ops clk (k + 1) os K ⟨put f d v, rows, tch, pend⟩ := pstr_min
theorem gs_buildSlice {t : TypeId} {len : Nat} {parts : Array (Nat × Operand)} : go (pstr E ops clk k (⟨d, .buildSlice t len parts, ty, pos, af, none⟩ :: os) K ⟨f, rows, tch, pend⟩) = ylitK (E.ty t) (vrow .any ops k pend rows) len (parts.toList.map fun x => (x.1, evf f x.2)) fun v => pstr E ops clk (k + 1) os K ⟨put f d v, rows, tch, pend⟩ := by
 show pstr E ops clk k (⟨d, .buildSlice t len parts, ty, pos, af, none⟩ :: os) K ⟨f, rows, tch, pend⟩ = _
 rw [pstr_buildSlice, stepV_lit]
theorem gs_store {t : TypeId} {p x : Operand} : go (pstr E ops clk k (⟨none, .store t p x, ty, pos, af, none⟩ :: os) K ⟨f, rows, tch, pend⟩) = ystoreK E t (vrow .any ops k pend rows) (evf f p) (evf f x) fun id r => stepA (okT .any ops k id tch) (pstr E ops clk (k + 1) os K ⟨f, upd rows id (some r), tadd k (ids1 (evf f p) ++ ((cellsS (evf f x)).getD []).flatMap ids1) tch, wadd k id pend⟩) := pstr_store'
theorem gs_alloc {t : TypeId} : go (pstr E ops clk k (⟨d, .alloc t, ty, pos, af, none⟩ :: os) K ⟨f, rows, tch, pend⟩) = stepA ((E.ty t).known = true ∧ okT .any ops k (d.getD 0) tch) (pstr E ops (clk + 1) (k + 1) os K ⟨put f d (.ptr (d.getD 0) clk 0 0), upd rows (d.getD 0) (some ⟨clk, t, (E.ty t).size, [(E.ty t).zero]⟩), tch, wadd k (d.getD 0) pend⟩) := pstr_alloc
theorem gs_box {t : TypeId} {x : Operand} : go (pstr E ops clk k (⟨d, .box t x, ty, pos, af, none⟩ :: os) K ⟨f, rows, tch, pend⟩) = stepA ((E.ty t).known = true) (optK (cellsS (evf f x)) fun l => stepA (allOne (fun _ => none) l ∧ l.length = (E.ty t).size ∧ okT .any ops k (d.getD 0) tch) (pstr E ops (clk + 1) (k + 1) os K ⟨put f d (.ptr (d.getD 0) clk 0 0), upd rows (d.getD 0) (some ⟨clk, t, (E.ty t).size, [l]⟩), tch, wadd k (d.getD 0) pend⟩)) := by
 show pstr E ops clk k (⟨d, .box t x, ty, pos, af, none⟩ :: os) K ⟨f, rows, tch, pend⟩ = _
 rw [pstr_box]
 simp only [stepA, optK, allOne]
theorem gs_makeSlice {t : TypeId} {l c : Operand} : go (pstr E ops clk k (⟨d, .makeSlice t l c, ty, pos, af, none⟩ :: os) K ⟨f, rows, tch, pend⟩) = ymake (E.ty t) (evf f l) (evf f c) fun e n z x => stepA (okT .any ops k (d.getD 0) tch) (pstr E ops (clk + 1) (k + 1) os K ⟨put f d (.own (d.getD 0) clk 0 x.toNat), upd rows (d.getD 0) (some ⟨clk, e, n, List.replicate x.toNat z⟩), tch, wadd k (d.getD 0) pend⟩) := pstr_makeSlice
def yappD (t : TI) (rows : Rows) (x y : PV) (clk d : Nat) (K : PV → Nat → Row → Prop) : Prop :=
 match t with
 | .slice e n b _ => ysrcK rows y fun l => stepA (lenAll n l) (match x with
  | .nil => stepA (l.length ≤ room ∧ l.length * b ≤ room) (K (.own d clk 0 l.length) d ⟨clk, e, n, l⟩)
  | .own id ver off len => withRow (rows id) ver fun r => stepA (off = 0 ∧ len = r.els.length ∧ r.e = e ∧ r.size = n) (stepA (len + l.length ≤ room ∧ (len + l.length) * b ≤ room) (K (.own id clk 0 (len + l.length)) id ⟨clk, e, n, r.els ++ l⟩))
  | _ => False)
 | _ => False
@[congr] theorem yappD_congr {t t' : TI} {rows rows' : Rows} {x x' y y' : PV} {clk d : Nat} {K : PV → Nat → Row → Prop} (h1 : t = t') (h2 : rows = rows') (h3 : x = x') (h4 : y = y') :
  yappD t rows x y clk d K = yappD t' rows' x' y' clk d K := by rw [h1, h2, h3, h4]
@[simp] theorem yappD_nil {e : TypeId} {n b : Nat} {z : List PV} {rows : Rows} {y : PV} {clk d : Nat} {K : PV → Nat → Row → Prop} : yappD (.slice e n b z) rows .nil y clk d K = ysrcK rows y fun l => stepA (lenAll n l) (stepA (l.length ≤ room ∧ l.length * b ≤ room) (K (.own d clk 0 l.length) d ⟨clk, e, n, l⟩)) := rfl
@[simp] theorem yappD_own {e : TypeId} {n b : Nat} {z : List PV} {rows : Rows} {y : PV} {clk d id ver off len : Nat} {K : PV → Nat → Row → Prop} : yappD (.slice e n b z) rows (.own id ver off len) y clk d K = ysrcK rows y fun l => stepA (lenAll n l) (withRow (rows id) ver fun r => stepA (off = 0 ∧ len = r.els.length ∧ r.e = e ∧ r.size = n) (stepA (len + l.length ≤ room ∧ (len + l.length) * b ≤ room) (K (.own id clk 0 (len + l.length)) id ⟨clk, e, n, r.els ++ l⟩))) := rfl
@[simp] theorem go_yappD (t : TI) (r : Rows) (x y : PV) (c d : Nat) (K : PV → Nat → Row → Prop) : go (yappD t r x y c d K) = yappD t r x y c d K := rfl
theorem appD_iff {t : TI} {rows : Rows} {x y : PV} {clk d : Nat} {K : PV → Nat → Row → Prop} : (∃ v id r, yappN t rows x y clk d v (some (id, r)) ∧ K v id r) = yappD t rows x y clk d K := by
 cases t with
 | slice e n b z =>
  simp only [yappD, yappN]
  rw [← src_iff]
  apply propext
  cases x with
  | nil =>
   simp only [stepA, lenAll]
   constructor
   ·rintro ⟨v, id, r, ⟨l, h1, h2, h3, h4, rfl, h5⟩, h6⟩
    cases h5
    exact ⟨l, h1, h2, ⟨h3, h4⟩, h6⟩
   ·rintro ⟨l, h1, h2, ⟨h3, h4⟩, h6⟩
    exact ⟨_, _, _, ⟨l, h1, h2, h3, h4, rfl, rfl⟩, h6⟩
  | own id ver off len =>
   simp only [stepA, lenAll, withRow]
   constructor
   ·rintro ⟨v, id', r', ⟨l, h1, h2, r, h3, h4, h5, h6, h7, h8, h9, h10, rfl, h11⟩, h12⟩
    cases h11
    exact ⟨l, h1, h2, r, h3, h4, ⟨h5, h6, h7, h8⟩, ⟨h9, h10⟩, h12⟩
   ·rintro ⟨l, h1, h2, r, h3, h4, ⟨h5, h6, h7, h8⟩, ⟨h9, h10⟩, h12⟩
    exact ⟨_, _, _, ⟨l, h1, h2, r, h3, h4, h5, h6, h7, h8, h9, h10, rfl, rfl⟩, h12⟩
  | _ => simp [stepA]
 | _ => simp [yappD, yappN]
theorem gs_append {t t2 : TypeId} {x y : Operand} : go (pstr E ops clk k (⟨d, .call { callee := .builtin .append, args := ⟨[x, y]⟩, argTypes := ⟨[t, t2]⟩ }, ty, pos, af, none⟩ :: os) K ⟨f, rows, tch, pend⟩) =
  stepA (t2 = t ∨ slT (E.ty t2) = true) (yappD (E.ty t) (vrow .any ops k pend rows) (evf f x) (evf f y) clk (d.getD 0) fun v id r => stepA (okT .any ops k id tch) (pstr E ops (clk + 1) (k + 1) os K ⟨put f d v, upd rows id (some r), tadd k (ids1 (evf f x) ++ ids1 (evf f y)) tch, wadd k id pend⟩)) := by
 show pstr E ops clk k (⟨d, .call { callee := .builtin .append, args := ⟨[x, y]⟩, argTypes := ⟨[t, t2]⟩ }, ty, pos, af, none⟩ :: os) K ⟨f, rows, tch, pend⟩ = _
 rw [pstr_append]
 congr 1
 exact appD_iff
theorem gs_call {fo : Operand} {args : Array Operand} {ts : Array TypeId} : go (pstr E ops clk k (⟨d, .call { callee := .value fo, args := args, argTypes := ts }, ty, pos, af, none⟩ :: os) K ⟨f, rows, tch, pend⟩) = ycallS E (evf f fo) (args.toList.map (evf f)) (vrow .any ops k pend rows) fun v => pstr E ops clk (k + 1) os K ⟨put f d v, rows, tch, pend⟩ := pstr_call
theorem gs_makeFunc {g : FuncId} {caps : Array Operand} : go (pstr E ops clk k (⟨d, .makeFunc (.func g) ⟨[]⟩ caps, ty, pos, af, none⟩ :: os) K ⟨f, rows, tch, pend⟩) = stepA ((caps.toList.map fun x => evf f x).all pers = true) (pstr E ops clk (k + 1) os K ⟨put f d (.fn g (caps.toList.map fun x => evf f x)), rows, tch, pend⟩) := pstr_makeFunc
theorem gs_guard {op : Op} {j : Nat} {want : Bool} : go (pstr E ops clk k (⟨d, op, ty, pos, af, some (j, want)⟩ :: os) K ⟨f, rows, tch, pend⟩) = guardK (gdst ops j) f want (pstr E ops clk k (⟨d, op, ty, pos, af, none⟩ :: os) K ⟨f, rows, tch, pend⟩) (pstr E ops clk (k + 1) os K ⟨put f d (.tup []), rows, tch, pend⟩) := by
 rw [gdst_eq, ← pstr_guard']; rfl
theorem go_nil {σ : PS} : go (pops E ops [] K σ) = K σ := rfl
theorem gs_nil {st : ST} : go (pstr E ops clk k [] K st) = go (K ⟨st.f, st.rows, clk⟩) := rfl
@[simp] theorem evf_tmp {s : Nat} : evf f (.tmp s) = f s := rfl
@[simp] theorem evf_func {g : FuncId} : evf f (.func g) = .fn g [] := rfl
@[simp] theorem evf_const {v : Value} : evf f (.const v) = constV v := rfl
end
@[simp] theorem constV_int {k : IntKind} {n : Int} : constV (.int k n) = .int k n := rfl
@[simp] theorem constV_bool {b : Bool} : constV (.bool b) = .bool b := rfl
@[simp] theorem constV_str {s : ByteArray} : constV (.string s) = .str s := rfl
@[simp] theorem constV_pnil : constV (.pointer none) = .pnil := rfl
@[simp] theorem constC_pnil : constC (.pointer none) = .pnil := rfl
@[simp] theorem constV_nil : constV (.slice none 0 0) = .nil := rfl
@[simp] theorem constV_agg {cs : List Value} : constV (.agg ⟨cs⟩) = .ag (cs.map constC) := rfl
@[simp] theorem constC_int {k : IntKind} {n : Int} : constC (.int k n) = .int k n := rfl
@[simp] theorem constC_bool {b : Bool} : constC (.bool b) = .bool b := rfl
@[simp] theorem constC_str {s : ByteArray} : constC (.string s) = .str s := rfl
@[simp] theorem constC_nil : constC (.slice none 0 0) = .nil := rfl
@[simp] theorem go_stepV (R K : PV → Prop) : go (stepV R K) = stepV R K := rfl
@[simp] theorem go_stepG (p : PV) (w : Bool) (A B : Prop) : go (stepG p w A B) = stepG p w A B := rfl
@[simp] theorem go_stepB (p : PV) (w : Bool) (A B : Prop) : go (stepB p w A B) = stepB p w A B := rfl
@[simp] theorem go_stepA (A B : Prop) : go (stepA A B) = stepA A B := rfl
@[simp] theorem go_stepR (P : Program) (g : FuncId) (l : List PV) (K : PV → Prop) : go (stepR P g l K) = stepR P g l K := rfl
@[simp] theorem go_withRow (o : Option Row) (v : Nat) (K : Row → Prop) : go (withRow o v K) = withRow o v K := rfl
@[simp] theorem go_ats (l : List (List PV)) (i : Nat) (K : List PV → Prop) : go (ats l i K) = ats l i K := rfl
@[simp] theorem go_ldK (t : TI) (l : List PV) (j : Nat) (K : PV → Prop) : go (ldK t l j K) = ldK t l j K := rfl
@[simp] theorem go_yloadK (E : Env) (t : TypeId) (r : Rows) (p : PV) (K : PV → Prop) : go (yloadK E t r p K) = yloadK E t r p K := rfl
@[simp] theorem go_yfieldK (t : TI) (i : Nat) (x : PV) (K : PV → Prop) : go (yfieldK t i x K) = yfieldK t i x K := rfl
@[simp] theorem go_fldK (p : Nat × Nat × Bool) (l : List PV) (K : PV → Prop) : go (fldK p l K) = fldK p l K := rfl
@[simp] theorem go_ynilK (r : Rows) (x : PV) (K : PV → Prop) : go (ynilK r x K) = ynilK r x K := rfl
@[simp] theorem go_yfieldAddrK (t : TI) (r : Rows) (i : Nat) (x : PV) (K : PV → Prop) : go (yfieldAddrK t r i x K) = yfieldAddrK t r i x K := rfl
@[simp] theorem go_yindexAddrK (t : TI) (r : Rows) (x y : PV) (K : PV → Prop) : go (yindexAddrK t r x y K) = yindexAddrK t r x y K := rfl
@[simp] theorem go_bdK (d : Nat) (o : Option PV) (K : Nat → Prop) : go (bdK d o K) = bdK d o K := rfl
@[simp] theorem go_ysliceK (t : TI) (r : Rows) (x : PV) (a b c : Option PV) (K : PV → Prop) : go (ysliceK t r x a b c K) = ysliceK t r x a b c K := rfl
@[simp] theorem go_ylenK (t : TI) (r : Rows) (x : PV) (K : PV → Prop) : go (ylenK t r x K) = ylenK t r x K := rfl
@[simp] theorem go_ystoreK (E : Env) (t : TypeId) (r : Rows) (p x : PV) (K : Nat → Row → Prop) : go (ystoreK E t r p x K) = ystoreK E t r p x K := rfl
@[simp] theorem go_ysrcK (r : Rows) (y : PV) (K : List (List PV) → Prop) : go (ysrcK r y K) = ysrcK r y K := rfl
@[simp] theorem go_yappK (t : TI) (r : Rows) (x y : PV) (c d : Nat) (K : PV → Rows → Nat → Prop) : go (yappK t r x y c d K) = yappK t r x y c d K := rfl
@[simp] theorem go_ymake (t : TI) (x y : PV) (K : TypeId → Nat → List PV → Int → Prop) : go (ymake t x y K) = ymake t x y K := rfl
@[simp] theorem go_ycallK (E : Env) (p : PV) (l : List PV) (r : Rows) (clk : Nat) (K : PV → Rows → Nat → Prop) : go (ycallK E p l r clk K) = ycallK E p l r clk K := rfl
@[simp] theorem go_stepM (P : Program) (g : FuncId) (l : List PV) (r : Rows) (clk : Nat) (K : PV → Rows → Nat → Prop) : go (stepM P g l r clk K) = stepM P g l r clk K := rfl
@[simp] theorem go_ycallS (E : Env) (p : PV) (l : List PV) (r : Rows) (K : PV → Prop) : go (ycallS E p l r K) = ycallS E p l r K := rfl
@[simp] theorem go_fillK {fs : List (Nat × Nat × Bool)} {ps : List (Nat × PV)} {z : List PV} {K : List PV → Prop} : go (fillK fs ps z K) = fillK fs ps z K := rfl
@[simp] theorem go_ybuildK {t : TI} {ps : List (Nat × PV)} {K : PV → Prop} : go (ybuildK t ps K) = ybuildK t ps K := rfl
@[simp] theorem go_partsK {n k : Nat} {ps : List (Nat × PV)} {K : List (List PV) → Prop} : go (partsK n k ps K) = partsK n k ps K := rfl
@[simp] theorem go_ylitK {t : TI} {rows : Rows} {len : Nat} {ps : List (Nat × PV)} {K : PV → Prop} : go (ylitK t rows len ps K) = ylitK t rows len ps K := rfl
@[simp] theorem go_yextK {i : Nat} {x : PV} {K : PV → Prop} : go (yextK i x K) = yextK i x K := rfl
@[simp] theorem go_optK {α : Type} (o : Option α) (K : α → Prop) : go (optK o K) = optK o K := rfl
@[simp] theorem go_ex {α : Type} (p : α → Prop) : go (∃ x, p x) = ∃ x, go (p x) := rfl
@[simp] theorem go_False : go False = False := rfl
@[simp] theorem go_go {p : Prop} : go (go p) = go p := rfl
@[simp] theorem gV_eq {t : PV} {K : PV → Prop} : stepV (fun v => v = t) K = go (K t) := stepV_eq
@[simp] theorem gV_eq' {t : PV} {K : PV → Prop} : stepV (fun v => t = v) K = go (K t) := stepV_eq'
@[simp] theorem gA_true {B : Prop} : stepA True B = go B := stepA_true
@[simp] theorem gG_tt {A B : Prop} : stepG (.bool true) true A B = go A := stepG_tt
@[simp] theorem gG_tf {A B : Prop} : stepG (.bool true) false A B = go B := stepG_tf
@[simp] theorem gG_ft {A B : Prop} : stepG (.bool false) true A B = go B := stepG_ft
@[simp] theorem gG_ff {A B : Prop} : stepG (.bool false) false A B = go A := stepG_ff
@[simp] theorem gG_no {w : Bool} {A B : Prop} : stepG (.tup []) w A B = go B := stepG_no
@[simp] theorem gB_tt {A B : Prop} : stepB (.bool true) true A B = go A := stepB_tt
@[simp] theorem gB_tf {A B : Prop} : stepB (.bool true) false A B = go B := stepB_tf
@[simp] theorem gB_ft {A B : Prop} : stepB (.bool false) true A B = go B := stepB_ft
@[simp] theorem gB_ff {A B : Prop} : stepB (.bool false) false A B = go A := stepB_ff
theorem gA {c B : Prop} (h : c) : stepA c B = go B := by simp [stepA, go, h]
attribute [simp] stepV_and stepV_ex put_some put_none upd_at fa_nil fa_cons go_move go_assign go_pick go_bin go_un go_conv go_extract go_load go_field go_fieldAddr go_indexAddr go_slice go_build go_index go_nilCheck gs_nilCheck go_len go_max go_min go_buildSlice go_store go_alloc go_box go_makeSlice go_append go_call go_makeFunc go_guard gs_move gs_assign gs_pick gs_bin gs_un gs_conv gs_extract gs_load gs_field gs_fieldAddr gs_indexAddr gs_slice gs_build gs_len gs_max gs_min gs_buildSlice gs_store gs_alloc gs_box gs_makeSlice gs_append gs_call gs_makeFunc gs_guard go_nil gs_nil
attribute [simp] slT ybin yun yconv yindex ymax ymin ymake ycallK ycallS fillQ TI.known TI.size TI.zero TI.agg pret pfin pone room
theorem pregion_zero0 {E : Env} {ops : List Oper} {K : PS → Prop} {f : Nat → PV} {rows : Rows} {clk : Nat} : pregion E 0 ops K ⟨f, rows, clk⟩ = pstr E ops clk 0 ops K ⟨f, rows, fun _ _ => False, fun _ _ => False⟩ := by simp [pregion]
@[simp] theorem pers_bool {b : Bool} : pers (.bool b) = true := rfl
@[simp] theorem pers1_bool {b : Bool} : pers1 (.bool b) = true := rfl
@[simp] theorem ids1_bool {b : Bool} : ids1 (.bool b) = [] := rfl
@[simp] theorem one1_bool {rows : Rows} {b : Bool} : one1 rows (.bool b) = True := rfl
@[simp] theorem cellsS_bool {b : Bool} : cellsS (.bool b) = some [.bool b] := rfl
@[simp] theorem cellsP_bool {b : Bool} : cellsP (.bool b) = some [.bool b] := rfl
@[simp] theorem pers_int {k : IntKind} {n : Int} : pers (.int k n) = true := rfl
@[simp] theorem pers1_int {k : IntKind} {n : Int} : pers1 (.int k n) = true := rfl
@[simp] theorem ids1_int {k : IntKind} {n : Int} : ids1 (.int k n) = [] := rfl
@[simp] theorem one1_int {rows : Rows} {k : IntKind} {n : Int} : one1 rows (.int k n) = True := rfl
@[simp] theorem cellsS_int {k : IntKind} {n : Int} : cellsS (.int k n) = some [.int k n] := rfl
@[simp] theorem cellsP_int {k : IntKind} {n : Int} : cellsP (.int k n) = some [.int k n] := rfl
@[simp] theorem pers_str {s : ByteArray} : pers (.str s) = true := rfl
@[simp] theorem pers1_str {s : ByteArray} : pers1 (.str s) = true := rfl
@[simp] theorem ids1_str {s : ByteArray} : ids1 (.str s) = [] := rfl
@[simp] theorem one1_str {rows : Rows} {s : ByteArray} : one1 rows (.str s) = True := rfl
@[simp] theorem cellsS_str {s : ByteArray} : cellsS (.str s) = some [.str s] := rfl
@[simp] theorem cellsP_str {s : ByteArray} : cellsP (.str s) = some [.str s] := rfl
@[simp] theorem pers_pnil  : pers .pnil = true := rfl
@[simp] theorem pers1_pnil  : pers1 .pnil = true := rfl
@[simp] theorem ids1_pnil  : ids1 .pnil = [] := rfl
@[simp] theorem idsV_pnil  : idsV .pnil = [] := rfl
@[simp] theorem fz_pnil {rows : Rows} : fz rows .pnil = .pnil := rfl
@[simp] theorem pz_pnil {rows : Rows} : pz rows .pnil = .pnil := rfl
@[simp] theorem one1_pnil {rows : Rows}  : one1 rows .pnil = True := rfl
@[simp] theorem cellsS_pnil  : cellsS .pnil = some [.pnil] := rfl
@[simp] theorem cellsP_pnil  : cellsP .pnil = some [.pnil] := rfl
@[simp] theorem pers_nil  : pers .nil = true := rfl
@[simp] theorem pers1_nil  : pers1 .nil = true := rfl
@[simp] theorem ids1_nil  : ids1 .nil = [] := rfl
@[simp] theorem one1_nil {rows : Rows}  : one1 rows .nil = True := rfl
@[simp] theorem cellsS_nil  : cellsS .nil = some [.nil] := rfl
@[simp] theorem cellsP_nil  : cellsP .nil = some [.nil] := rfl
@[simp] theorem pers_sl {l : List (List PV)} : pers (.sl l) = true := rfl
@[simp] theorem pers1_sl {l : List (List PV)} : pers1 (.sl l) = true := rfl
@[simp] theorem ids1_sl {l : List (List PV)} : ids1 (.sl l) = [] := rfl
@[simp] theorem one1_sl {rows : Rows} {l : List (List PV)} : one1 rows (.sl l) = True := rfl
@[simp] theorem cellsS_sl {l : List (List PV)} : cellsS (.sl l) = some [.sl l] := rfl
@[simp] theorem cellsP_sl {l : List (List PV)} : cellsP (.sl l) = some [.sl l] := rfl
@[simp] theorem pers_slx {l : List (List PV)} : pers (.slx l) = true := rfl
@[simp] theorem pers1_slx {l : List (List PV)} : pers1 (.slx l) = true := rfl
@[simp] theorem ids1_slx {l : List (List PV)} : ids1 (.slx l) = [] := rfl
@[simp] theorem one1_slx {rows : Rows} {l : List (List PV)} : one1 rows (.slx l) = True := rfl
@[simp] theorem cellsS_slx {l : List (List PV)} : cellsS (.slx l) = some [.slx l] := rfl
@[simp] theorem cellsP_slx {l : List (List PV)} : cellsP (.slx l) = some [.slx l] := rfl
@[simp] theorem pers_rd {l : List PV} : pers (.rd l) = true := rfl
@[simp] theorem pers1_rd {l : List PV} : pers1 (.rd l) = true := rfl
@[simp] theorem ids1_rd {l : List PV} : ids1 (.rd l) = [] := rfl
@[simp] theorem one1_rd {rows : Rows} {l : List PV} : one1 rows (.rd l) = True := rfl
@[simp] theorem cellsS_rd {l : List PV} : cellsS (.rd l) = some [.rd l] := rfl
@[simp] theorem cellsP_rd {l : List PV} : cellsP (.rd l) = some [.rd l] := rfl
@[simp] theorem pers_fn {f : FuncId} {l : List PV} : pers (.fn f l) = true := rfl
@[simp] theorem pers1_fn {f : FuncId} {l : List PV} : pers1 (.fn f l) = true := rfl
@[simp] theorem ids1_fn {f : FuncId} {l : List PV} : ids1 (.fn f l) = [] := rfl
@[simp] theorem one1_fn {rows : Rows} {f : FuncId} {l : List PV} : one1 rows (.fn f l) = True := rfl
@[simp] theorem cellsS_fn {f : FuncId} {l : List PV} : cellsS (.fn f l) = some [.fn f l] := rfl
@[simp] theorem cellsP_fn {f : FuncId} {l : List PV} : cellsP (.fn f l) = some [.fn f l] := rfl
@[simp] theorem pers_ag {l : List PV} : pers (.ag l) = l.all pers1 := rfl
@[simp] theorem pers_tup {l : List PV} : pers (.tup l) = true := rfl
@[simp] theorem cellsS_ag {l : List PV} : cellsS (.ag l) = some l := rfl
@[simp] theorem cellsP_ag {l : List PV} : cellsP (.ag l) = some l := rfl
@[simp] theorem ids1_own {id v o l : Nat} : ids1 (.own id v o l) = [id] := rfl
@[simp] theorem ids1_ptr {id v o l : Nat} : ids1 (.ptr id v o l) = [id] := rfl
@[simp] theorem cellsS_own {id v o l : Nat} : cellsS (.own id v o l) = some [.own id v o l] := rfl
@[simp] theorem cellsS_ptr {id v o l : Nat} : cellsS (.ptr id v o l) = some [.ptr id v o l] := rfl
def rowAt (o : Option Row) (ver : Nat) : Prop := ∃ r, o = some r ∧ r.ver = ver
@[simp] theorem rowAt_some {r : Row} {ver : Nat} : rowAt (some r) ver = (r.ver = ver) := by simp [rowAt]
@[simp] theorem one1_own {rows : Rows} {id v o l : Nat} : one1 rows (.own id v o l) = rowAt (rows id) v := rfl
@[simp] theorem one1_ptr {rows : Rows} {id v o l : Nat} : one1 rows (.ptr id v o l) = rowAt (rows id) v := rfl
@[simp] theorem setEl_one {e l : List PV} {j : Nat} : setEl [e] 0 j l = [e.take j ++ l ++ e.drop (j + l.length)] := by simp [setEl]
@[simp] theorem elLen_one {e : List PV} {n : Nat} : elLen [e] 0 n = (n ≤ e.length) := by simp [elLen]
@[simp] theorem praws_tmp {E : Env} {σ : PS} {t : Tmp} {rs : List ResultVar} {K : List PV → Prop} : praws E σ (.tmp t :: rs) K = praws E σ rs fun vs => K (σ.f t :: vs) := rfl
@[simp] theorem praws_nil {E : Env} {σ : PS} {K : List PV → Prop} : praws E σ [] K = K [] := rfl
@[simp] theorem praws_cell {E : Env} {σ : PS} {a : Tmp} {t : TypeId} {rs : List ResultVar} {K : List PV → Prop} : praws E σ (.cell a t :: rs) K = yloadK E t σ.rows (σ.f a) fun v => praws E σ rs fun vs => K (v :: vs) := by
 show (∃ v, yload E t σ.rows (σ.f a) v ∧ praws E σ rs fun vs => K (v :: vs)) = _
 rw [← stepV_load]; rfl
@[simp] theorem pregion_zero {E : Env} {ops : List Oper} {K : PS → Prop} {f : Nat → PV} {rows : Rows} {clk : Nat} : go (pregion E 0 ops K ⟨f, rows, clk⟩) = go (pstr E ops clk 0 ops K ⟨f, rows, fun _ _ => False, fun _ _ => False⟩) := pregion_zero0
theorem wrap_i64 {n : Int} (h1 : -9223372036854775808 ≤ n) (h2 : n < 9223372036854775808) : IntKind.i64.wrap n = n := by
 have e : IntKind.i64.wrap n = if n % 18446744073709551616 ≥ 9223372036854775808 then n % 18446744073709551616 - 18446744073709551616 else n % 18446744073709551616 := by
  simp [IntKind.wrap, IntKind.bits, IntKind.signed]
 rw [e]
 split <;> omega
theorem wrap_u64 {n : Int} (h1 : 0 ≤ n) (h2 : n < 18446744073709551616) : IntKind.u64.wrap n = n := by
 simp only [IntKind.wrap, IntKind.bits, IntKind.signed, Bool.false_and, Bool.false_eq_true, if_false]
 omega
theorem wrap_u32 {n : Int} (h1 : 0 ≤ n) (h2 : n < 4294967296) : IntKind.u32.wrap n = n := by
 simp only [IntKind.wrap, IntKind.bits, IntKind.signed, Bool.false_and, Bool.false_eq_true, if_false]
 omega
theorem wA : (∀ n : Int, -9223372036854775808 ≤ n → n < 9223372036854775808 → IntKind.i64.wrap n = n) ∧ (∀ n : Int, 0 ≤ n → n < 18446744073709551616 → IntKind.u64.wrap n = n) ∧ (∀ n : Int, 0 ≤ n → n < 4294967296 → IntKind.u32.wrap n = n) ∧
  (∀ a b : Int, 0 ≤ a → a.tdiv b = a / b) ∧ (∀ a b : Int, 0 ≤ a → a.tmod b = a % b) := ⟨fun _ => wrap_i64, fun _ => wrap_u64, fun _ => wrap_u32, fun _ _ h => Int.tdiv_eq_ediv_of_nonneg h, fun _ _ h => Int.tmod_eq_emod_of_nonneg h⟩
theorem wrap_u8 {n : Int} (h1 : 0 ≤ n) (h2 : n < 256) : IntKind.u8.wrap n = n := by
 simp only [IntKind.wrap, IntKind.bits, IntKind.signed, Bool.false_and, Bool.false_eq_true, if_false]
 omega
theorem wrap_u64' {n : Int} : IntKind.u64.wrap n = n % 18446744073709551616 := by
 simp only [IntKind.wrap, IntKind.bits, IntKind.signed, Bool.false_and, Bool.false_eq_true, if_false]
 rfl
theorem wrap_u32' {n : Int} : IntKind.u32.wrap n = n % 4294967296 := by
 simp only [IntKind.wrap, IntKind.bits, IntKind.signed, Bool.false_and, Bool.false_eq_true, if_false]
 rfl
section
variable {E : Env} {n : Nat} {tl : Nat → Nat} {Q : PX → PS → Prop} {σ : PS}
theorem W.reg {id : Nat} {ops : List Oper} (h : ∀ K : PS → Prop, (∀ σ, Q .normal σ → K σ) → go (pops E ops ops K σ)) : W E n tl (.region id ops.toArray false) Q σ := W.region_k h
theorem W.drw {id : Nat} {ops : List Oper} (h : ∀ K : PS → Prop, (∀ σ, Q .normal σ → K σ) → go (pregion E (tl id) ops K σ)) : W E n tl (.region id ops.toArray true) Q σ := W.draw_k h
theorem W.sreg {id : Nat} {ops : List Oper} {y : Code} (h : ∀ K : PS → Prop, (∀ σ, W E n tl y Q σ → K σ) → go (pops E ops ops K σ)) : W E n tl (.seq (.region id ops.toArray false) y) Q σ := W.seq_region h
theorem W.sdrw {id : Nat} {ops : List Oper} {y : Code} (h : ∀ K : PS → Prop, (∀ σ, W E n tl y Q σ → K σ) → go (pregion E (tl id) ops K σ)) : W E n tl (.seq (.region id ops.toArray true) y) Q σ := W.seq_draw h
end
section
variable {E : Env} {n : Nat} {tl : Nat → Nat} {Q : PX → PS → Prop} {σ : PS}
theorem W.loopG {c : Code} (I : Nat → PS → Prop) (k : Nat) (h0 : ∃ σ0, Gh n σ σ0 ∧ I k σ0) (h1 : ∀ k σ, I k σ → W E n tl c (pseq (fun σ' => ∃ m σ'', Gh n σ' σ'' ∧ m < k ∧ I m σ'') Q) σ) : W E n tl (.loop c) Q σ := by
 obtain ⟨σ0, hg, h0⟩ := h0
 refine W.ghost hg ?_
 refine W.loop (fun k σ => ∃ σ', Gh n σ σ' ∧ I k σ') k ⟨σ0, fun _ _ _ _ _ h => h, h0⟩ ?_
 rintro k σ ⟨σ', hg, hI⟩
 refine W.ghost hg (W.mono (h1 k σ' hI) fun x τ hx => ?_)
 cases x with
 | normal => obtain ⟨m, σ'', h2, h3, h4⟩ := hx; exact ⟨m, h3, σ'', h2, h4⟩
 | exit id => exact hx
 | ret => exact hx
theorem Gh.refl : Gh n σ σ := fun _ _ _ _ _ h => h
theorem Gh.trans {σ' σ'' : PS} (h : Gh n σ σ') (h' : Gh n σ' σ'') : Gh n σ σ'' := fun _ _ _ _ _ hR => h' _ _ _ _ _ (h _ _ _ _ _ hR)
theorem W.condB {c : Operand} {t e : Code} (b : Prop) [Decidable b] (hc : evf σ.f c = .bool (decide b)) (h1 : b → W E n tl t Q σ) (h2 : ¬ b → W E n tl e Q σ) : W E n tl (.cond c t e) Q σ := W.cond ⟨_, hc, fun h => h1 (of_decide_eq_true h), fun h => h2 (of_decide_eq_false h)⟩
theorem W.ghf {f : Nat → PV} {rows : Rows} {clk : Nat} {c : Code} (l : List (Nat × PV)) (hl : ∀ p ∈ l, f p.1 = p.2) (h : W E n tl c Q ⟨fa l, rows, clk⟩) : W E n tl c Q ⟨f, rows, clk⟩ := by
 have := Gh_fa (f := f) (rows := rows) (clk := clk) n (l.map (·.1))
 have e : ((l.map (·.1)).map fun i => (i, f i)) = l := by
  rw [List.map_map]
  conv => rhs; rw [← List.map_id l]
  exact List.map_congr_left fun p hp => by simp [hl p hp]
 rw [e] at this
 exact W.ghost this h
theorem Gh.fr {f : Nat → PV} {rows : Rows} {clk : Nat} (l : List (Nat × PV)) (hl : ∀ p ∈ l, f p.1 = p.2) : Gh n ⟨f, rows, clk⟩ ⟨fa l, rows, clk⟩ := by
 have := Gh_fa (f := f) (rows := rows) (clk := clk) n (l.map (·.1))
 have e : ((l.map (·.1)).map fun i => (i, f i)) = l := by
  rw [List.map_map]
  conv => rhs; rw [← List.map_id l]
  exact List.map_congr_left fun p hp => by simp [hl p hp]
 rw [e] at this
 exact this
end
theorem ret_of_Wf {E : Env} {fid : FuncId} {fn : Func} {code : Code} (tl : Nat → Nat) {args : List PV} {r : PV} (l : List (Nat × PV)) (h1 : E.P.funcs[fid]? = some fn) (h2 : fn.body = some code) (h3 : (fn.name == "runtime.NumGoroutine") = false)
  (hok : codeOK fn.ntmps tl code = true) (hargs : args.length ≤ fn.ntmps) (hl : ∀ p ∈ l, args.getD p.1 .undef = p.2) (h : W E fn.ntmps tl code (pfin E fn.results.toList r) ⟨fa l, fun _ => none, 0⟩) : Ret E.P fid args r :=
 ret_of_W tl h1 h2 h3 hok hargs (W.ghf l (by simpa using hl) h)
end Pm
namespace Pm
@[simp] theorem fdiv_32 {a : Int} : Int.fdiv a 4294967296 = a / 4294967296 := Int.fdiv_eq_ediv_of_nonneg a (by decide)
@[simp] theorem fdiv_63 {a : Int} : Int.fdiv a 9223372036854775808 = a / 9223372036854775808 := Int.fdiv_eq_ediv_of_nonneg a (by decide)
attribute [simp] Go.IntKind.bits
end Pm
namespace Pm
open Go Go.RowKit
section
variable {E : Env} {n : Nat} {tl : Nat → Nat} {Q : PX → PS → Prop} {σ : PS}
theorem W.seqJ {x y : Code} (J : PS → Prop) (h : W E n tl x (pseq (fun σ => ∃ σ', Gh n σ σ' ∧ J σ') Q) σ) (hy : ∀ σ, J σ → W E n tl y Q σ) : W E n tl (.seq x y) Q σ :=
 W.seq (W.mono h fun x σ hx => by
  cases x with
  | normal => obtain ⟨σ', hg, hJ⟩ := hx; exact W.ghost hg (hy σ' hJ)
  | exit id => exact hx
  | ret => exact hx)
def pnor (J : PS → Prop) (Q : PX → PS → Prop) : PX → PS → Prop
 | .normal, σ => J σ
 | .exit id, σ => Q (.exit id) σ
 | .ret, σ => Q .ret σ
theorem W.seq_blockJ {id : Nat} {x y : Code} (J : PS → Prop) (h : W E n tl x (pblk id (pnor (fun σ => ∃ σ', Gh n σ σ' ∧ J σ') Q)) σ) (hy : ∀ σ, J σ → W E n tl y Q σ) : W E n tl (.seq (.block id x) y) Q σ :=
 W.seq (W.block (W.mono h fun x σ hx => by
  cases x with
  | normal => obtain ⟨σ', hg, hJ⟩ := hx; exact W.ghost hg (hy σ' hJ)
  | exit j =>
   simp only [pblk] at hx ⊢
   split
   ·rename_i hj; rw [if_pos hj] at hx; obtain ⟨σ', hg, hJ⟩ := hx; exact W.ghost hg (hy σ' hJ)
   ·rename_i hj; rw [if_neg hj] at hx; exact hx
  | ret => exact hx))
theorem W.sregJ {id : Nat} {ops : List Oper} {y : Code} (J : PS → Prop) (h : ∀ K : PS → Prop, (∀ σ σ', Gh n σ σ' → J σ' → K σ) → go (pops E ops ops K σ)) (hy : ∀ σ, J σ → W E n tl y Q σ) : W E n tl (.seq (.region id ops.toArray false) y) Q σ :=
 W.sreg fun K hK => h K fun σ _ hg hJ => hK σ (W.ghost hg (hy _ hJ))
theorem W.sdrwJ {id : Nat} {ops : List Oper} {y : Code} (J : PS → Prop) (h : ∀ K : PS → Prop, (∀ σ σ', Gh n σ σ' → J σ' → K σ) → go (pregion E (tl id) ops K σ)) (hy : ∀ σ, J σ → W E n tl y Q σ) : W E n tl (.seq (.region id ops.toArray true) y) Q σ :=
 W.sdrw fun K hK => h K fun σ _ hg hJ => hK σ (W.ghost hg (hy _ hJ))
@[simp] theorem pnor_normal {J : PS → Prop} : pnor J Q .normal σ = J σ := rfl
@[simp] theorem pnor_ret {J : PS → Prop} : pnor J Q .ret σ = Q .ret σ := rfl
@[simp] theorem pnor_exit {J : PS → Prop} {id : Nat} : pnor J Q (.exit id) σ = Q (.exit id) σ := rfl
@[simp] theorem pseq_normal {J : PS → Prop} : pseq J Q .normal σ = J σ := rfl
@[simp] theorem pseq_ret {J : PS → Prop} : pseq J Q .ret σ = Q .ret σ := rfl
@[simp] theorem pseq_exit {J : PS → Prop} {id : Nat} : pseq J Q (.exit id) σ = Q (.exit id) σ := rfl
@[simp] theorem pblk_normal {id : Nat} : pblk id Q .normal σ = Q .normal σ := rfl
@[simp] theorem pblk_ret {id : Nat} : pblk id Q .ret σ = Q .ret σ := rfl
@[simp] theorem pblk_exit {id j : Nat} : pblk id Q (.exit j) σ = if j = id then Q .normal σ else Q (.exit j) σ := rfl
theorem pX : (∀ (Q : PX → PS → Prop) (σ : PS) (id j : Nat), pblk id Q (.exit j) σ = if j = id then Q .normal σ else Q (.exit j) σ) ∧ (∀ (Q : PX → PS → Prop) (σ : PS) (id : Nat), pblk id Q .normal σ = Q .normal σ) ∧ (∀ (Q : PX → PS → Prop) (σ : PS) (id : Nat), pblk id Q .ret σ = Q .ret σ) ∧
  (∀ (J : PS → Prop) (Q : PX → PS → Prop) (σ : PS) (id : Nat), pseq J Q (.exit id) σ = Q (.exit id) σ) ∧ (∀ (J : PS → Prop) (Q : PX → PS → Prop) (σ : PS), pseq J Q .normal σ = J σ) ∧ (∀ (J : PS → Prop) (Q : PX → PS → Prop) (σ : PS), pseq J Q .ret σ = Q .ret σ) ∧
  (∀ (J : PS → Prop) (Q : PX → PS → Prop) (σ : PS) (id : Nat), pnor J Q (.exit id) σ = Q (.exit id) σ) ∧ (∀ (J : PS → Prop) (Q : PX → PS → Prop) (σ : PS), pnor J Q .normal σ = J σ) ∧ (∀ (J : PS → Prop) (Q : PX → PS → Prop) (σ : PS), pnor J Q .ret σ = Q .ret σ) :=
 ⟨fun _ _ _ _ => rfl, fun _ _ _ => rfl, fun _ _ _ => rfl, fun _ _ _ _ => rfl, fun _ _ _ => rfl, fun _ _ _ => rfl, fun _ _ _ _ => rfl, fun _ _ _ => rfl, fun _ _ _ => rfl⟩
end
end Pm
namespace Pm
open Go
theorem callM {P : Program} {g : FuncId} {vals : List PV} {rows : Rows} {clk : Nat} {K : PV → Rows → Nat → Prop} {R : PV → Rows → Nat → Prop} (h : RetG P g vals rows clk R) (hK : ∀ r rows' clk', R r rows' clk' → go (K r rows' clk')) : stepM P g vals rows clk K := ⟨R, h, hK⟩
theorem callR {P : Program} {g : FuncId} {args : List PV} {K : PV → Prop} {v : PV} (h : Ret P g args v) (hK : go (K v)) : stepR P g args K := ⟨v, h, hK⟩
end Pm
namespace Pm
open Go
theorem W.liveK {E : Env} {n : Nat} {tl : Nat → Nat} {c : Code} {Q : PX → PS → Prop} {f : Nat → PV} {rows : Rows} {clk : Nat} (l : List Nat) (h : ∀ K : PS → Prop, (∀ σ, W E n tl c Q σ → K σ) → K ⟨fa (l.map fun i => (i, f i)), rows, clk⟩) : W E n tl c Q ⟨f, rows, clk⟩ := W.live l (h _ fun _ h => h)
theorem W.lv {E : Env} {n : Nat} {tl : Nat → Nat} {c : Code} {Q : PX → PS → Prop} {f : Nat → PV} {rows : Rows} {clk : Nat} {K0 : PS → Prop} (l : List Nat) (hK : ∀ σ, W E n tl c Q σ → K0 σ) (h : ∀ K : PS → Prop, (∀ σ, W E n tl c Q σ → K σ) → K ⟨fa (l.map fun i => (i, f i)), rows, clk⟩) : K0 ⟨f, rows, clk⟩ := hK _ (W.liveK l h)
end Pm
namespace Pm
open Go Go.RowKit
def Wk (p q : PV) : Prop := q = p ∨ (p = .nil ∧ q = .sl [])
theorem Wk.rep {c : Cx} {p q : PV} {v : Value} (h : Wk p q) (hr : RepC c p v) : RepC c q v := by
 rcases h with rfl | ⟨rfl, rfl⟩
 ·exact hr
 ·simp only [RepC, Rep] at hr ⊢
  exact ⟨none, 0, by simpa using hr, by simp, by simp, .inl trivial⟩
theorem All2.flat {α β : Type} {R : α → β → Prop} : ∀ {l : List (List α)} {m : List (List β)}, All2 (All2 R) l m → All2 R l.flatten m.flatten
 | [], [], _ => trivial
 | a :: l, b :: m, h => by
  obtain ⟨h1, h2⟩ := h
  have ih := All2.flat h2
  clear h2
  induction a generalizing b with
  | nil => cases b with
   | nil => exact ih
   | cons => exact h1.elim
  | cons x a iha => cases b with
   | nil => exact h1.elim
   | cons y b => exact ⟨h1.1, iha b h1.2⟩
theorem Gh_row {n id ver e m clk : Nat} {f : Nat → PV} {rows : Rows} {els els' : List (List PV)} (hr : rows id = some ⟨ver, e, m, els⟩) (hw : All2 (All2 fun q p => Wk p q) els' els) : Gh n ⟨f, rows, clk⟩ ⟨f, upd rows id (some ⟨ver, e, m, els'⟩), clk⟩ := by
 rintro w0 S0 G a w ⟨⟨c, rfl, hrow, hcl, hI, hf, hG⟩, h7, h8⟩
 have hr' : c.rows id = some ⟨ver, e, m, els⟩ := by rw [hrow]; exact hr
 obtain ⟨⟨xs, g1, g2, g3⟩, g4, g5, g6⟩ := hI.row id _ hr'
 have hlen : els'.length = els.length := hw.length
 obtain ⟨hI', hA⟩ := hI.upd (w' := c.w) (r' := ⟨ver, e, m, els'⟩) (xs := xs) hr' (World.grownBy.refl _ _) (by simp only [hlen]; exact g1)
  (by
   have h1 := All2.flat hw
   have : ∀ {l : List PV} {k : List PV} {vs : List Value}, All2 (fun q p => Wk p q) l k → All2 (RepC c) k vs → All2 (RepC c) l vs := by
    intro l
    induction l with
    | nil => intro k vs h h'; cases k with
     | nil => exact h'
     | cons => exact h.elim
    | cons x l ih => intro k vs h h'; cases k with
     | nil => exact h.elim
     | cons y k => cases vs with
      | nil => exact h'.elim
      | cons v vs => exact ⟨h.1.rep h'.1, ih h.2 h'.2⟩
   exact this h1 g2) g3 (fun el hel => by
   obtain ⟨k, hk⟩ := List.getElem?_of_mem hel
   obtain ⟨b, hb, h1⟩ := hw.get hk
   rw [h1.length]
   exact g4 b (List.mem_of_getElem? hb)) rfl rfl hlen
 refine ⟨⟨{ c with rows := upd c.rows id (some ⟨ver, e, m, els'⟩) }, rfl, by simp [hrow], hcl, hI', fun s => RepV.adv hA _ _ (hf s), fun p hp => RepV.adv hA _ _ (hG p hp)⟩, h7, h8⟩
theorem Gh_nil {n s id e m clk : Nat} {f : Nat → PV} {rows : Rows} (hs : f s = .nil) (hm : 0 < m) : Gh n ⟨f, rows, clk⟩ ⟨put f (some s) (.own id clk 0 0), upd rows id (some ⟨clk, e, m, []⟩), clk + 1⟩ := by
 rintro w0 S0 G a w ⟨⟨c, rfl, hrow, hcl, hI, hf, hG⟩, h7, h8⟩
 obtain ⟨hI', hA⟩ := hI.set (w' := c.w) (ob := none) (id := id) (r' := ⟨clk, e, m, []⟩) (v' := .slice none 0 0) (xs := []) (World.grownBy.refl _ _) (by simp) ⟨by simp, .inl ⟨rfl, rfl⟩⟩ (by simp [All2]) (by simp) (by simp) hm (by simp [Value.ownBlock]) (fun hu => Nat.lt_irrefl _ (hcl _ hu))
 refine ⟨⟨{ c with β := upd c.β id (.slice none 0 0), rows := upd c.rows id (some ⟨clk, e, m, []⟩), used := fun v => v = clk ∨ c.used v }, rfl, by simp [hrow], fun v hv => by
  show v < clk + 1
  rcases hv with rfl | hv
  ·omega
  ·have : v < clk := hcl v hv
   omega, hI', fun t => ?_, fun p hp => RepV.adv hA _ _ (hG p hp)⟩, h7, h8⟩
 simp only [put]
 split
 ·rename_i ht
  subst ht
  have h1 := hf t
  simp only at h1
  rw [hs] at h1
  simp only [RepV, RepC, Rep] at h1
  simp only [RepV, RepC]
  refine ⟨.inl (by first | rfl | trivial), fun r hr hv => ?_⟩
  simp only [upd_same, Option.some.injEq] at hr
  subst hr
  exact ⟨by simp, .inl ⟨trivial, none, 0, 0, by simp [upd], h1⟩⟩
 ·exact RepV.adv hA _ _ (hf t)
theorem Wk.refl (p : PV) : Wk p p := .inl rfl
theorem All2_rep {α β : Type} {R : α → β → Prop} {x : α} {y : β} (h : R x y) : ∀ k : Nat, All2 R (List.replicate k x) (List.replicate k y)
 | 0 => trivial
 | k + 1 => ⟨h, All2_rep h k⟩
section
variable {E : Env} {n : Nat} {tl : Nat → Nat} {Q : PX → PS → Prop} {c : Code} {f : Nat → PV} {rows : Rows} {clk : Nat}
theorem W.row {id ver e m : Nat} {els : List (List PV)} (els' : List (List PV)) (hr : rows id = some ⟨ver, e, m, els⟩) (hw : All2 (All2 fun q p => Wk p q) els' els) (h : W E n tl c Q ⟨f, upd rows id (some ⟨ver, e, m, els'⟩), clk⟩) : W E n tl c Q ⟨f, rows, clk⟩ := W.ghost (Gh_row hr hw) h
theorem W.nil (s id e m : Nat) (hs : f s = .nil) (hm : 0 < m) (h : ∀ K : PS → Prop, (∀ σ, W E n tl c Q σ → K σ) → K ⟨put f (some s) (.own id clk 0 0), upd rows id (some ⟨clk, e, m, []⟩), clk + 1⟩) : W E n tl c Q ⟨f, rows, clk⟩ := W.ghost (Gh_nil hs hm) (h _ fun _ h => h)
end
def fzP (o : Option Row) (ver i j : Nat) : PV :=
 match o with
 | some r => if r.ver = ver then .rd ((r.els.getD i []).drop j) else .undef
 | none => .undef
@[simp] theorem fz_ptr {rows : Rows} {id ver i j : Nat} : fz rows (.ptr id ver i j) = fzP (rows id) ver i j := rfl
@[simp] theorem pz_ptr {rows : Rows} {id ver i j : Nat} : pz rows (.ptr id ver i j) = fzP (rows id) ver i j := rfl
@[simp] theorem fzP_one {ver e n : Nat} {el : List PV} : fzP (some ⟨ver, e, n, [el]⟩) ver 0 0 = .rd el := by simp [fzP]
@[simp] theorem idsV_ptr {id ver i j : Nat} : idsV (.ptr id ver i j) = [id] := rfl
@[simp] theorem rowPers_one {ver e n : Nat} {el : List PV} : rowPers (some ⟨ver, e, n, [el]⟩) = ∀ p ∈ el, pers1 p = true := by simp [rowPers]
end Pm
namespace Pm
open Go
theorem pregion_tail {E : Env} {m : Nat} {ops : List Oper} {K : PS → Prop} {f : Nat → PV} {rows : Rows} {clk : Nat} : go (pregion E (m + 1) ops K ⟨f, rows, clk⟩) = go (pstr E ops clk 0 (ops.take (ops.length - (m + 1))) (pops E ops (ops.drop (ops.length - (m + 1))) K) ⟨f, rows, fun _ _ => False, fun _ _ => False⟩) := by
 simp [pregion]
end Pm
namespace Pm
open Go Go.RowKit
def fz1 (rows : Rows) (id : Nat) : PV → PV
 | .own i ver off len => if i = id then fz rows (.own i ver off len) else .own i ver off len
 | .ptr i ver a j => if i = id then fz rows (.ptr i ver a j) else .ptr i ver a j
 | p => p
def fzV (rows : Rows) (id : Nat) : PV → PV
 | .ag l => .ag (l.map (fz1 rows id))
 | p => fz1 rows id p
theorem fz1_rep {w0 : World} {S0 : Stab} {c : Cx} (hI : Inv w0 S0 c) {id : Nat} (hp : ∀ r, c.rows id = some r → ∀ e ∈ r.els, ∀ p ∈ e, pers1 p = true) {p : PV} {v : Value} (h : RepC c p v) : RepC (frC c [id]) (fz1 c.rows id p) v := by
 have hp' : ∀ i ∈ [id], ∀ r, c.rows i = some r → ∀ e ∈ r.els, ∀ p ∈ e, pers1 p = true := by intro i hi; simp at hi; subst hi; exact hp
 have key : ∀ q : PV, RepC c q v → (∀ i ∈ ids1 q, i ∈ [id]) → (fz c.rows q = .undef ∨ pers1 (fz c.rows q) = true) → RepC (frC c [id]) (fz c.rows q) v := by
  intro q hq hi ho
  rcases ho with ho | ho
  ·rw [ho]; simp [RepC]
  ·exact RepC.of_rep (fz_rep hI hp' hq hi ho)
 cases p with
 | own i ver off len =>
  simp only [fz1]
  split
  ·rename_i hi
   subst hi
   refine key _ h (by simp [ids1]) ?_
   simp only [fz]
   cases c.rows i with
   | none => exact .inl rfl
   | some r =>
    simp only
    split
    ·exact .inr rfl
    ·exact .inl rfl
  ·exact RepC.adv (frC_adv c [id]) _ _ h
 | ptr i ver a j =>
  simp only [fz1]
  split
  ·rename_i hi
   subst hi
   refine key _ h (by simp [ids1]) ?_
   simp only [fz]
   cases c.rows i with
   | none => exact .inl rfl
   | some r =>
    simp only
    split
    ·exact .inr rfl
    ·exact .inl rfl
  ·exact RepC.adv (frC_adv c [id]) _ _ h
 | _ => exact RepC.adv (frC_adv c [id]) _ _ h
theorem fzV_rep {w0 : World} {S0 : Stab} {c : Cx} (hI : Inv w0 S0 c) {id : Nat} (hp : ∀ r, c.rows id = some r → ∀ e ∈ r.els, ∀ p ∈ e, pers1 p = true) {p : PV} {v : Value} (h : RepV c p v) : RepV (frC c [id]) (fzV c.rows id p) v := by
 cases p with
 | ag l =>
  obtain ⟨vs, h1, h2⟩ := h
  refine ⟨vs, h1, All2.of_get (by simp [h2.length]) fun k a b ha hb => ?_⟩
  simp at ha
  obtain ⟨q, hq, rfl⟩ := ha
  obtain ⟨b', hb', hr⟩ := h2.get hq
  rw [hb] at hb'; cases hb'
  exact fz1_rep hI hp hr
 | _ =>
  simp only [RepV] at h
  have := fz1_rep hI hp h
  simp only [fzV]
  exact (by
   first
    | (simp only [fz1, RepV] at this ⊢; exact this)
    | (simp only [fz1] at this ⊢
       split
       · rename_i hi; rw [if_pos hi] at this; simp only [fz] at this ⊢; revert this; split <;> (try split) <;> exact fun h => h
       · rename_i hi; rw [if_neg hi] at this; exact this))
theorem fzV_undef {rows : Rows} {id : Nat} : fzV rows id .undef = .undef := rfl
theorem fa_map {l : List (Nat × PV)} {g : PV → PV} (hg : g .undef = .undef) : (fun s => g (fa l s)) = fa (l.map fun p => (p.1, g p.2)) := by
 funext s
 induction l with
 | nil => exact hg
 | cons p l ih =>
  obtain ⟨i, v⟩ := p
  simp only [fa, List.map_cons]
  split
  ·rfl
  ·exact ih
theorem Gh_freeze {n clk : Nat} {l : List (Nat × PV)} {rows : Rows} (id : Nat) (hp : rowPers (rows id)) : Gh n ⟨fa l, rows, clk⟩ ⟨fa (l.map fun p => (p.1, fzV rows id p.2)), frR rows [id], clk⟩ := by
 rintro w0 S0 G a w ⟨⟨c, rfl, hrow, hcl, hI, hf, hG⟩, h7, h8⟩
 have hrow' : c.rows = rows := hrow
 subst hrow'
 refine ⟨⟨frC c [id], rfl, rfl, hcl, hI.freeze [id], fun s => ?_, fun p hp => RepV.adv (frC_adv c [id]) _ _ (hG p hp)⟩, h7, h8⟩
 rw [← fa_map (g := fzV c.rows id) fzV_undef]
 exact fzV_rep hI hp (hf s)
theorem W.freeze {E : Env} {n : Nat} {tl : Nat → Nat} {Q : PX → PS → Prop} {c : Code} {l : List (Nat × PV)} {rows : Rows} {clk : Nat} (id : Nat) (hp : rowPers (rows id)) (h : ∀ K : PS → Prop, (∀ σ, W E n tl c Q σ → K σ) → K ⟨fa (l.map fun p => (p.1, fzV rows id p.2)), frR rows [id], clk⟩) : W E n tl c Q ⟨fa l, rows, clk⟩ := W.ghost (Gh_freeze id hp) (h _ fun _ h => h)
@[simp] theorem fzV_own {rows : Rows} {id i ver off len : Nat} : fzV rows id (.own i ver off len) = if i = id then fzR (rows i) ver off len else .own i ver off len := rfl
@[simp] theorem fzV_ptr {rows : Rows} {id i ver a j : Nat} : fzV rows id (.ptr i ver a j) = if i = id then fzP (rows i) ver a j else .ptr i ver a j := rfl
@[simp] theorem fzV_sls {α : Type} {g : α → List PV} {rows : Rows} {id : Nat} {l : List α} : fzV rows id (sls g l) = sls g l := rfl
@[simp] theorem fzV_int {rows : Rows} {id : Nat} {k : IntKind} {n : Int} : fzV rows id (.int k n) = .int k n := rfl
@[simp] theorem fzV_bool {rows : Rows} {id : Nat} {b : Bool} : fzV rows id (.bool b) = .bool b := rfl
@[simp] theorem fzV_nil {rows : Rows} {id : Nat} : fzV rows id .nil = .nil := rfl
@[simp] theorem fzV_sl {rows : Rows} {id : Nat} {l : List (List PV)} : fzV rows id (.sl l) = .sl l := rfl
@[simp] theorem fzV_slx {rows : Rows} {id : Nat} {l : List (List PV)} : fzV rows id (.slx l) = .slx l := rfl
@[simp] theorem fzV_ag {rows : Rows} {id : Nat} {l : List PV} : fzV rows id (.ag l) = .ag (l.map (fz1 rows id)) := rfl
@[simp] theorem fz1_int {rows : Rows} {id : Nat} {k : IntKind} {n : Int} : fz1 rows id (.int k n) = .int k n := rfl
@[simp] theorem fz1_bool {rows : Rows} {id : Nat} {b : Bool} : fz1 rows id (.bool b) = .bool b := rfl
@[simp] theorem fz1_nil {rows : Rows} {id : Nat} : fz1 rows id .nil = .nil := rfl
@[simp] theorem fz1_sls {α : Type} {g : α → List PV} {rows : Rows} {id : Nat} {l : List α} : fz1 rows id (sls g l) = sls g l := rfl
end Pm
namespace Pm
open Go Go.RowKit
theorem Gh_nils {n s clk : Nat} {f : Nat → PV} {rows : Rows} (q : PV) (hs : f s = .nil) (hq : q = .sl []) : Gh n ⟨f, rows, clk⟩ ⟨put f (some s) q, rows, clk⟩ := by
 rintro w0 S0 G a w ⟨⟨c, rfl, hrow, hcl, hI, hf, hG⟩, h7, h8⟩
 refine ⟨⟨c, rfl, hrow, hcl, hI, fun t => ?_, hG⟩, h7, h8⟩
 simp only [put]
 split
 ·rename_i ht
  subst ht
  have h1 := hf t
  simp only at h1
  rw [hs] at h1
  subst hq
  simp only [RepV] at h1 ⊢
  exact Wk.rep (.inr ⟨rfl, rfl⟩) h1
 ·exact hf t
theorem W.nils {E : Env} {n : Nat} {tl : Nat → Nat} {Q : PX → PS → Prop} {c : Code} {f : Nat → PV} {rows : Rows} {clk : Nat} (s : Nat) (q : PV) (hs : f s = .nil) (hq : q = .sl []) (h : ∀ K : PS → Prop, (∀ σ, W E n tl c Q σ → K σ) → K ⟨put f (some s) q, rows, clk⟩) : W E n tl c Q ⟨f, rows, clk⟩ := W.ghost (Gh_nils q hs hq) (h _ fun _ h => h)
end Pm
namespace Pm
open Go Go.RowKit
theorem slx_rep {c : Cx} {l : List (List PV)} {v : Value} (hr : RepC c (.slx l) v) : RepC c (.sl l) v := by
 simp only [RepC, Rep] at hr ⊢
 obtain ⟨a, h1, h2, h3⟩ := hr
 exact ⟨a, l.length, h1, Nat.le_refl _, h2, h3⟩
theorem Gh_slxs {n s clk : Nat} {f : Nat → PV} {rows : Rows} (l : List (List PV)) (q : PV) (hs : f s = .slx l) (hq : q = .sl l) : Gh n ⟨f, rows, clk⟩ ⟨put f (some s) q, rows, clk⟩ := by
 rintro w0 S0 G a w ⟨⟨c, rfl, hrow, hcl, hI, hf, hG⟩, h7, h8⟩
 refine ⟨⟨c, rfl, hrow, hcl, hI, fun t => ?_, hG⟩, h7, h8⟩
 simp only [put]
 split
 ·rename_i ht
  subst ht
  have h1 := hf t
  simp only at h1
  rw [hs] at h1
  subst hq
  simp only [RepV] at h1 ⊢
  exact slx_rep h1
 ·exact hf t
theorem W.slxs {E : Env} {n : Nat} {tl : Nat → Nat} {Q : PX → PS → Prop} {c : Code} {f : Nat → PV} {rows : Rows} {clk : Nat} (s : Nat) (l : List (List PV)) (q : PV) (hs : f s = .slx l) (hq : q = .sl l) (h : ∀ K : PS → Prop, (∀ σ, W E n tl c Q σ → K σ) → K ⟨put f (some s) q, rows, clk⟩) : W E n tl c Q ⟨f, rows, clk⟩ := W.ghost (Gh_slxs l q hs hq) (h _ fun _ h => h)
end Pm
namespace Pm
open Go Go.RowKit
def frCell (rows : Rows) (id : Nat) : Option Row → Option Row
 | some r => some { r with els := r.els.map fun e => e.map (fz1 rows id) }
 | none => none
def frC2 (rows : Rows) (id : Nat) : Rows := fun j => if j = id then none else frCell rows id (rows j)
@[simp] theorem frC2_at {rows : Rows} {id j : Nat} : frC2 rows id j = if j = id then none else frCell rows id (rows j) := rfl
@[simp] theorem frCell_some {rows : Rows} {id v e n : Nat} {els : List (List PV)} : frCell rows id (some ⟨v, e, n, els⟩) = some ⟨v, e, n, els.map fun e => e.map (fz1 rows id)⟩ := rfl
@[simp] theorem frCell_none {rows : Rows} {id : Nat} : frCell rows id none = none := rfl
@[simp] theorem fz1_own {rows : Rows} {id i ver off len : Nat} : fz1 rows id (.own i ver off len) = if i = id then fzR (rows i) ver off len else .own i ver off len := rfl
@[simp] theorem fz1_ptr {rows : Rows} {id i ver a j : Nat} : fz1 rows id (.ptr i ver a j) = if i = id then fzP (rows i) ver a j else .ptr i ver a j := rfl
theorem Gh_freezeC {n clk : Nat} {l : List (Nat × PV)} {rows : Rows} (id : Nat) (hp : rowPers (rows id)) : Gh n ⟨fa l, rows, clk⟩ ⟨fa (l.map fun p => (p.1, fzV rows id p.2)), frC2 rows id, clk⟩ := by
 rintro w0 S0 G a w ⟨⟨c, rfl, hrow, hcl, hI, hf, hG⟩, h7, h8⟩
 have hrow' : c.rows = rows := hrow
 subst hrow'
 have hIf := hI.freeze [id]
 have live : ∀ {j : Nat} {r' : Row}, frC2 c.rows id j = some r' → j ≠ id ∧ ∃ r, c.rows j = some r ∧ r' = { r with els := r.els.map fun e => e.map (fz1 c.rows id) } := by
  intro j r' h
  simp only [frC2] at h
  split at h
  ·cases h
  ·rename_i hj
   cases hr : c.rows j with
   | none => rw [hr] at h; cases h
   | some r => rw [hr] at h; simp only [frCell, Option.some.injEq] at h; exact ⟨hj, r, rfl, h.symm⟩
 have hA : Adv (frC c [id]) { frC c [id] with rows := frC2 c.rows id } := by
  refine ⟨fun _ _ h => h, fun _ _ _ => rfl, fun _ h => h, fun j r' h => ?_⟩
  obtain ⟨hj, r, hr, rfl⟩ := live h
  exact .inr ⟨r, by simp [frC, frR, hj, hr], rfl, rfl, by simp, rfl⟩
 have hI2 : Inv w0 S0 { frC c [id] with rows := frC2 c.rows id } := by
  refine ⟨hIf.below, hIf.ext, hIf.new, hIf.lt0, fun j r' h => ?_, fun j r' h => ?_, fun i j r s g hr hs => ?_⟩
  ·obtain ⟨hj, r, hr, rfl⟩ := live h
   exact hI.clock j r hr
  ·obtain ⟨hj, r, hr, rfl⟩ := live h
   obtain ⟨⟨xs, g1, g2, g3⟩, g4, g5, g6⟩ := hI.row j r hr
   obtain ⟨_, _, f5, _⟩ := hIf.row j r (by simp [frC, frR, hj, hr])
   refine ⟨⟨xs, by rw [List.length_map]; exact g1, ?_, g3⟩, fun e he => ?_, f5, g6⟩
   ·show All2 _ (List.flatten (r.els.map fun e => e.map (fz1 c.rows id))) xs
    rw [← List.map_flatten]
    refine All2.of_get (by rw [List.length_map]; exact g2.length) fun k p u hp' hu => ?_
    rw [List.getElem?_map] at hp'
    obtain ⟨q, hq, rfl⟩ := Option.map_eq_some_iff.1 hp'
    obtain ⟨u', hu', hr'⟩ := g2.get hq
    rw [hu] at hu'; cases hu'
    exact RepC.adv hA _ _ (fz1_rep hI hp hr')
   ·simp only [List.mem_map] at he
    obtain ⟨e', he', rfl⟩ := he
    simpa using g4 e' he'
  ·obtain ⟨hi, r1, hr1, rfl⟩ := live hr
   obtain ⟨hj, r2, hr2, rfl⟩ := live hs
   exact hI.apart i j r1 r2 g hr1 hr2
 refine ⟨⟨{ frC c [id] with rows := frC2 c.rows id }, rfl, rfl, hcl, hI2, fun s => ?_, fun p hp => RepV.adv hA _ _ (RepV.adv (frC_adv c [id]) _ _ (hG p hp))⟩, h7, h8⟩
 show RepV _ (fa (l.map fun p => (p.1, fzV c.rows id p.2)) s) _
 rw [← fa_map (g := fzV c.rows id) fzV_undef]
 exact RepV.adv hA _ _ (fzV_rep hI hp (hf s))
theorem W.freezeC {E : Env} {n : Nat} {tl : Nat → Nat} {Q : PX → PS → Prop} {c : Code} {l : List (Nat × PV)} {rows : Rows} {clk : Nat} (id : Nat) (hp : rowPers (rows id)) (h : ∀ K : PS → Prop, (∀ σ, W E n tl c Q σ → K σ) → K ⟨fa (l.map fun p => (p.1, fzV rows id p.2)), frC2 rows id, clk⟩) : W E n tl c Q ⟨fa l, rows, clk⟩ := W.ghost (Gh_freezeC id hp) (h _ fun _ h => h)
end Pm
