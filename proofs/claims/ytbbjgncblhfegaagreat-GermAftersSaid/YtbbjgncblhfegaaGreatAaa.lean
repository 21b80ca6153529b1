import Derived.WalkKit
import Derived.StillTail
import Derived.Maps.AppendAt
set_option linter.unusedSimpArgs false
set_option linter.unusedVariables false
namespace Pm
open Go Go.RowKit
inductive PV where
 | undef
 | bool (b : Bool)
 | int (k : IntKind) (n : Int)
 | str (s : ByteArray)
 | nil
 | sl (l : List (List PV))
 | iZ (l : List (List PV))
 | rd (l : List PV)
 | fn (f : FuncId) (bR : List PV)
 | own (id ver off len : Nat)
 | ptr (id ver i j : Nat)
 | ag (l : List PV)
 | eP (l : List PV)
 | jI
abbrev c9 := Nat → Nat → Prop
mutual
def cJ (S : c9) (w : World) : PV → Value → Prop
 | .undef, _ => False
 | .bool b, v => v = .bool b
 | .int k n, v => v = .int k n
 | .str s, v => v = .string s
 | .nil, v => v = .slice none 0 0
 | .sl l, v => ∃ a cap, v = .slice a l.length cap ∧ l.length ≤ cap ∧ cap ≤ maxLen ∧ (l = [] ∨ ∃ b o, a = some ⟨b, o, none⟩ ∧ eF S w b o l)
 | .iZ l, v => ∃ a, v = .slice a l.length l.length ∧ l.length ≤ maxLen ∧ (l = [] ∨ ∃ b o, a = some ⟨b, o, none⟩ ∧ eF S w b o l)
 | .rd l, v => ∃ b o, v = .pointer (some ⟨b, o, none⟩) ∧ cK S w b o l
 | .fn f bR, v => ∃ cs, v = .func (.func f) #[] cs.toArray ∧ bI S w bR cs
 | .own _ _ _ _, _ => False
 | .ptr _ _ _ _, _ => False
 | .ag l, v => ∃ vs, v = .agg vs.toArray ∧ bI S w l vs
 | .eP l, v => ∃ vs, v = .tuple vs.toArray ∧ bI S w l vs
 | .jI, v => v = .pointer none
def bI (S : c9) (w : World) : List PV → List Value → Prop
 | [], vs => vs = []
 | p :: ps, vs => ∃ v SK, vs = v :: SK ∧ cJ S w p v ∧ bI S w ps SK
def cK (S : c9) (w : World) (b o : Nat) : List PV → Prop
 | [] => True
 | p :: ps => (∃ v, w.cell? ⟨b, o, none⟩ = some v ∧ S b o ∧ v.oneCell' = true ∧ cJ S w p v) ∧ cK S w b (o + 1) ps
def eF (S : c9) (w : World) (b o : Nat) : List (List PV) → Prop
 | [] => True
 | e :: es => cK S w b o e ∧ eF S w b (o + e.length) es
end
section mono
variable {S S' : c9} {w w' : World}
mutual
theorem cJ.mono (hS : ∀ b o, S b o → S' b o) (hw : ∀ b o, S b o → w'.cell? ⟨b, o, none⟩ = w.cell? ⟨b, o, none⟩) : ∀ (p : PV) (v : Value), cJ S w p v → cJ S' w' p v
 | .undef, _, h => by simp [cJ] at h
 | .bool b, _, h => by simpa [cJ] using h
 | .int k n, _, h => by simpa [cJ] using h
 | .str s, _, h => by simpa [cJ] using h
 | .jI, _, h => by simpa [cJ] using h
 | .nil, _, h => by simpa [cJ] using h
 | .sl l, v, h => by
  simp only [cJ] at h ⊢
  obtain ⟨a, cap, h1, h2, h3, h4⟩ := h
  exact ⟨a, cap, h1, h2, h3, h4.imp id fun ⟨b, o, ha, hr⟩ => ⟨b, o, ha, eF.mono hS hw l b o hr⟩⟩
 | .iZ l, v, h => by
  simp only [cJ] at h ⊢
  obtain ⟨a, h1, h3, h4⟩ := h
  exact ⟨a, h1, h3, h4.imp id fun ⟨b, o, ha, hr⟩ => ⟨b, o, ha, eF.mono hS hw l b o hr⟩⟩
 | .rd l, v, h => by
  simp only [cJ] at h ⊢
  obtain ⟨b, o, h1, h2⟩ := h
  exact ⟨b, o, h1, cK.mono hS hw l b o h2⟩
 | .fn f bR, v, h => by
  simp only [cJ] at h ⊢
  obtain ⟨cs, h1, h2⟩ := h
  exact ⟨cs, h1, bI.mono hS hw bR cs h2⟩
 | .own _ _ _ _, _, h => by simp [cJ] at h
 | .ptr _ _ _ _, _, h => by simp [cJ] at h
 | .ag l, v, h => by
  simp only [cJ] at h ⊢
  obtain ⟨cs, h1, h2⟩ := h
  exact ⟨cs, h1, bI.mono hS hw l cs h2⟩
 | .eP l, v, h => by
  simp only [cJ] at h ⊢
  obtain ⟨cs, h1, h2⟩ := h
  exact ⟨cs, h1, bI.mono hS hw l cs h2⟩
theorem bI.mono (hS : ∀ b o, S b o → S' b o) (hw : ∀ b o, S b o → w'.cell? ⟨b, o, none⟩ = w.cell? ⟨b, o, none⟩) : ∀ (l : List PV) (vs : List Value), bI S w l vs → bI S' w' l vs
 | [], _, h => by simpa [bI] using h
 | p :: ps, vs, h => by
  simp only [bI] at h ⊢
  obtain ⟨v, SK, h1, h2, h3⟩ := h
  exact ⟨v, SK, h1, cJ.mono hS hw p v h2, bI.mono hS hw ps SK h3⟩
theorem cK.mono (hS : ∀ b o, S b o → S' b o) (hw : ∀ b o, S b o → w'.cell? ⟨b, o, none⟩ = w.cell? ⟨b, o, none⟩) : ∀ (l : List PV) (b o : Nat), cK S w b o l → cK S' w' b o l
 | [], _, _, _ => by simp [cK]
 | p :: ps, b, o, h => by
  simp only [cK] at h ⊢
  obtain ⟨⟨v, h1, h2, h5, h3⟩, h4⟩ := h
  exact ⟨⟨v, by rw [hw b o h2]; exact h1, hS b o h2, h5, cJ.mono hS hw p v h3⟩, cK.mono hS hw ps b (o + 1) h4⟩
theorem eF.mono (hS : ∀ b o, S b o → S' b o) (hw : ∀ b o, S b o → w'.cell? ⟨b, o, none⟩ = w.cell? ⟨b, o, none⟩) : ∀ (l : List (List PV)) (b o : Nat), eF S w b o l → eF S' w' b o l
 | [], _, _, _ => by simp [eF]
 | e :: es, b, o, h => by
  simp only [eF] at h ⊢
  exact ⟨cK.mono hS hw e b o h.1, eF.mono hS hw es b (o + e.length) h.2⟩
end
end mono
def a7 {α β : Type} (R : α → β → Prop) : List α → List β → Prop
 | [], [] => True
 | a :: aA1, b :: bs => R a b ∧ a7 R aA1 bs
 | _, _ => False
section arX
variable {α β : Type} {R R' : α → β → Prop}
theorem a7.mono (h : ∀ a b, R a b → R' a b) : ∀ {l : List α} {m : List β}, a7 R l m → a7 R' l m
 | [], [], _ => trivial
 | _ :: _, _ :: _, hh => ⟨h _ _ hh.1, a7.mono h hh.2⟩
 | [], _ :: _, hh => hh.elim
 | _ :: _, [], hh => hh.elim
theorem a7.length : ∀ {l : List α} {m : List β}, a7 R l m → l.length = m.length
 | [], [], _ => rfl
 | _ :: _, _ :: _, hh => by simp [a7.length hh.2]
 | [], _ :: _, hh => hh.elim
 | _ :: _, [], hh => hh.elim
theorem a7.get : ∀ {l : List α} {m : List β}, a7 R l m → ∀ {k : Nat} {a : α}, l[k]? = some a → ∃ b, m[k]? = some b ∧ R a b
 | [], [], _, _, _, h => by simp at h
 | _ :: _, _ :: _, hh, 0, _, h => by simp at h; subst h; exact ⟨_, by simp, hh.1⟩
 | _ :: _, _ :: _, hh, k + 1, _, h => by simp at h; simpa using a7.get hh.2 h
 | [], _ :: _, hh, _, _, _ => hh.elim
 | _ :: _, [], hh, _, _, _ => hh.elim
theorem a7.cV : ∀ {l : List α} {m : List β}, l.length = m.length → (∀ (k : Nat) a b, l[k]? = some a → m[k]? = some b → R a b) → a7 R l m
 | [], [], _, _ => trivial
 | a :: l, b :: m, hl, h => ⟨h 0 a b (by simp) (by simp), a7.cV (by simpa using hl) fun k x y hx hy => h (k + 1) x y (by simpa using hx) (by simpa using hy)⟩
 | [], _ :: _, hl, _ => by simp at hl
 | _ :: _, [], hl, _ => by simp at hl
theorem a7.append : ∀ {l : List α} {m : List β} {l' : List α} {m' : List β}, a7 R l m → a7 R l' m' → a7 R (l ++ l') (m ++ m')
 | [], [], _, _, _, h => by simpa using h
 | _ :: _, _ :: _, _, _, hh, h => ⟨hh.1, a7.append hh.2 h⟩
 | [], _ :: _, _, _, hh, _ => hh.elim
 | _ :: _, [], _, _, hh, _ => hh.elim
theorem a7.take {l : List α} {m : List β} (h : a7 R l m) (n : Nat) : a7 R (l.take n) (m.take n) :=
 a7.cV (by simp [h.length]) fun k a b ha hb => by
  rw [List.getElem?_take] at ha hb
  split at ha
  ·rename_i hk; rw [if_pos hk] at hb; obtain ⟨b', yA, hr⟩ := h.get ha; rw [hb] at yA; cases yA; exact hr
  ·cases ha
theorem a7.drop {l : List α} {m : List β} (h : a7 R l m) (n : Nat) : a7 R (l.drop n) (m.drop n) :=
 a7.cV (by simp [h.length]) fun k a b ha hb => by
  rw [List.getElem?_drop] at ha hb
  obtain ⟨b', yA, hr⟩ := h.get ha; rw [hb] at yA; cases yA; exact hr
end arX
theorem cE {S : c9} {w : World} : ∀ {l : List PV} {vs : List Value}, bI S w l vs ↔ a7 (cJ S w) l vs
 | [], [] => by simp [bI, a7]
 | [], _ :: _ => by simp [bI, a7]
 | p :: ps, [] => by simp [bI, a7]
 | p :: ps, v :: vs => by
  simp only [bI, a7]
  constructor
  ·rintro ⟨v', SK, h, h1, h2⟩; cases h; exact ⟨h1, cE.1 h2⟩
  ·rintro ⟨h1, h2⟩; exact ⟨v, vs, rfl, h1, cE.2 h2⟩
structure Row where
 ver : Nat
 e : TypeId
 size : Nat
 els : List (List PV)
abbrev Rows := Nat → Option Row
structure Cx where
 S : c9
 w : World
 β : Nat → Value
 rows : Rows
 used : Nat → Prop
def aP (c : Cx) : PV → Value → Prop
 | .undef, _ => True
 | .own id ver off len, v => c.used ver ∧ ∀ r, c.rows id = some r → r.ver = ver → off + len ≤ r.els.length ∧
   ((off = 0 ∧ ∃ a n cap, c.β id = .slice a n cap ∧ v = .slice a len cap) ∨
    (0 < off ∧ ∃ g n cap a, c.β id = .slice (some ⟨g, 0, none⟩) n cap ∧ off ≤ cap ∧ v = .slice (some a) len (cap - off) ∧ (len = 0 ∨ a = ⟨g, off * r.size, none⟩)))
 | .ptr id ver i j, v => c.used ver ∧ ∀ r, c.rows id = some r → r.ver = ver → ∃ g n cap, c.β id = .slice (some ⟨g, 0, none⟩) n cap ∧ v = .pointer (some ⟨g, i * r.size + j, none⟩)
 | p, v => cJ c.S c.w p v
def aK (c : Cx) : PV → Value → Prop
 | .ag l, v => ∃ vs, v = .agg vs.toArray ∧ a7 (aP c) l vs
 | p, v => aP c p v
structure amp (w0 : World) (c : Cx) (id : Nat) (r : Row) : Prop where
 own : ∃ xs, c.w.ownsRow w0.heap.size r.e r.size (c.β id) r.els.length xs ∧ a7 (aP c) r.els.flatten xs ∧ (∀ x ∈ xs, x.oneCell' = true)
 len : ∀ e ∈ r.els, e.length = r.size
 arY : ∀ g o, (c.β id).ownBlock = some g → ¬ c.S g o
 pos : 0 < r.size
structure Inv (w0 : World) (S0 : c9) (c : Cx) : Prop where
 below : Below w0.heap.size w0 c.w
 ext : ∀ b o, S0 b o → c.S b o
 new : ∀ b o, c.S b o → S0 b o ∨ (w0.heap.size ≤ b ∧ b < c.w.heap.size)
 lt0 : ∀ b o, S0 b o → b < w0.heap.size
 clock : ∀ id r, c.rows id = some r → c.used r.ver
 row : ∀ id r, c.rows id = some r → amp w0 c id r
 apart : ∀ id iW r r' g, c.rows id = some r → c.rows iW = some r' → (c.β id).ownBlock = some g → (c.β iW).ownBlock = some g → id = iW
theorem Inv.lt {w0 : World} {S0 : c9} {c : Cx} (h : Inv w0 S0 c) {b o : Nat} (hb : c.S b o) : b < c.w.heap.size := by
 rcases h.new b o hb with h1 | h1
 ·have := h.lt0 b o h1; have := h.below.size; omega
 ·exact h1.2
structure rT (c c' : Cx) : Prop where
 S : ∀ b o, c.S b o → c'.S b o
 w : ∀ b o, c.S b o → c'.w.cell? ⟨b, o, none⟩ = c.w.cell? ⟨b, o, none⟩
 clock : ∀ v, c.used v → c'.used v
 rows : ∀ id r', c'.rows id = some r' → ¬ c.used r'.ver ∨ ∃ r, c.rows id = some r ∧ r.ver = r'.ver ∧ r.size = r'.size ∧ r.els.length = r'.els.length ∧ c'.β id = c.β id
theorem rT.refl (c : Cx) : rT c c := ⟨fun _ _ h => h, fun _ _ _ => rfl, fun _ h => h, fun _ r h => .inr ⟨r, h, rfl, rfl, rfl, rfl⟩⟩
theorem aP.rU {c c' : Cx} (h : rT c c') : ∀ (p : PV) (v : Value), aP c p v → aP c' p v := by
 intro p v hp
 cases p with
 | undef => simp [aP]
 | own id ver off len =>
  simp only [aP] at hp ⊢
  refine ⟨h.clock _ hp.1, fun r' jP hv => ?_⟩
  rcases h.rows id r' jP with h1 | ⟨r, h1, h2, h3, h4, h5⟩
  ·exact absurd (show c.used r'.ver by rw [hv]; exact hp.1) h1
  ·have := hp.2 r h1 (h2.trans hv)
   rw [h5, ← h3, ← h4]; exact this
 | ptr id ver i j =>
  simp only [aP] at hp ⊢
  refine ⟨h.clock _ hp.1, fun r' jP hv => ?_⟩
  rcases h.rows id r' jP with h1 | ⟨r, h1, h2, h3, h4, h5⟩
  ·exact absurd (show c.used r'.ver by rw [hv]; exact hp.1) h1
  ·have := hp.2 r h1 (h2.trans hv)
   rw [h5, ← h3]; exact this
 | _ => simp only [aP] at hp ⊢; exact cJ.mono h.S h.w _ _ hp
theorem aK.rU {c c' : Cx} (h : rT c c') : ∀ (p : PV) (v : Value), aK c p v → aK c' p v := by
 intro p v hp
 cases p with
 | ag l => obtain ⟨vs, h1, h2⟩ := hp; exact ⟨vs, h1, h2.mono (aP.rU h)⟩
 | _ => simp only [aK] at hp ⊢; exact aP.rU h _ _ hp
def bY : PV → Bool
 | .undef => false
 | .own .. => false
 | .ptr .. => false
 | _ => true
def eY : PV → Bool
 | .ag l => l.all bY
 | p => bY p
theorem aP.rep {c : Cx} {p : PV} {v : Value} (h : aP c p v) (hp : bY p = true) : cJ c.S c.w p v := by
 cases p <;> simp_all [bY, aP]
theorem aP.i0 {c : Cx} {p : PV} {v : Value} (h : cJ c.S c.w p v) : aP c p v := by
 cases p <;> simp_all [aP, cJ]
theorem aK.rep {c : Cx} {p : PV} {v : Value} (h : aK c p v) (hp : eY p = true) : cJ c.S c.w p v := by
 cases p with
 | ag l =>
  obtain ⟨vs, h1, h2⟩ := h
  simp only [cJ]
  refine ⟨vs, h1, cE.2 (a7.cV h2.length fun k a b ha hb => ?_)⟩
  obtain ⟨b', yA, hr⟩ := h2.get ha
  rw [hb] at yA; cases yA
  exact hr.rep (List.all_eq_true.1 hp a (List.mem_of_getElem? ha))
 | _ => simp only [aK] at h; exact aP.rep h hp
theorem aK.i0 {c : Cx} {p : PV} {v : Value} (h : cJ c.S c.w p v) : aK c p v := by
 cases p with
 | ag l =>
  simp only [cJ] at h
  obtain ⟨vs, h1, h2⟩ := h
  exact ⟨vs, h1, (cE.1 h2).mono fun _ _ => aP.i0⟩
 | _ => simp only [aK]; exact aP.i0 h
theorem Inv.grow {w0 : World} {S0 : c9} {c : Cx} (h : Inv w0 S0 c) {w' : World} {S' : c9} (hb : Below c.w.heap.size c.w w')
  (h1 : ∀ b o, c.S b o → S' b o) (h2 : ∀ b o, S' b o → c.S b o ∨ (c.w.heap.size ≤ b ∧ b < w'.heap.size)) :
  Inv w0 S0 { c with S := S', w := w' } ∧ rT c { c with S := S', w := w' } := by
 have BE : rT c { c with S := S', w := w' } := ⟨h1, fun b o hbo => hb.cell (p := ⟨b, o, none⟩) (h.lt hbo), fun _ h => h, fun id r hr => .inr ⟨r, hr, rfl, rfl, rfl, rfl⟩⟩
 refine ⟨⟨h.below.trans (hb.mono h.below.size), fun b o hh => h1 b o (h.ext b o hh), fun b o hh => ?_, h.lt0, h.clock, fun id r hr => ?_, h.apart⟩, BE⟩
 ·rcases h2 b o hh with h3 | h3
  ·rcases h.new b o h3 with h4 | h4
   ·exact .inl h4
   ·exact .inr ⟨h4.1, by have := hb.size; show b < w'.heap.size; omega⟩
  ·exact .inr ⟨by have := h.below.size; omega, h3.2⟩
 ·obtain ⟨⟨xs, g1, g2, g3⟩, hlen, hnS, kH⟩ := h.row id r hr
  refine ⟨⟨xs, g1.kept (row := none) ⟨hb.os, hb.tape, hb.output, hb.size, fun k hk _ => hb.block k hk⟩ (by cases (c.β id).ownBlock <;> simp), g2.mono (aP.rU BE), g3⟩, hlen, fun g o hg hS => ?_, kH⟩
  rcases h2 g o hS with h3 | h3
  ·exact hnS g o hg h3
  ·have := (g1.lt g hg).2; omega
inductive TI where
 | int (k : IntKind)
 | bool
 | str
 | slice (e : TypeId) (n b : Nat) (z : List PV)
 | struct (fs : List (Nat × Nat × Bool)) (z : List PV)
 | arr (e : TypeId) (k n : Nat) (z : List PV)
 | yB
 | fnT
 | other
def iE : Value → PV
 | .bool b => .bool b
 | .int k n => .int k n
 | .string s => .str s
 | .slice none 0 0 => .nil
 | .func (.func f) ⟨[]⟩ ⟨[]⟩ => .fn f []
 | .pointer none => .jI
 | _ => .undef
def mL : Value → PV
 | .agg cs => .ag (cs.toList.map iE)
 | v => iE v
def TI.zero : TI → List PV
 | .int k => [.int k 0]
 | .bool => [.bool false]
 | .str => [.str ⟨#[]⟩]
 | .slice _ _ _ _ => [.nil]
 | .struct _ z => z
 | .arr _ _ _ z => z
 | .yB => [.jI]
 | .fnT => [.undef]
 | .other => []
def TI.agg : TI → Bool
 | .struct _ _ => true
 | .arr _ _ _ _ => true
 | _ => false
def TI.size (t : TI) : Nat := t.zero.length
def TI.known : TI → Bool
 | .other => false
 | _ => true
def ace : Option TypeDesc → Bool
 | some (.struct _) => true
 | some (.array _ _) => true
 | _ => false
def uX (P : Program) (t : TypeId) : Bool := ace (P.underlying t)
structure kI (P : Program) (t : TypeId) (n : Nat) (z : List PV) : Prop where
 ok : ∃ i v, P.info? t = some i ∧ i.zero = some v ∧ i.size = n ∧ v.cells.toList.map iE = z ∧ v.cells.all (·.oneCell') = true
 len : z.length = n
 pos : 0 < n
structure lU (P : Program) (f : Field) (x : Nat × Nat × Bool) : Prop where
 off : f.offset = x.1
 size : ∃ i, P.info? f.type = some i ∧ i.size = x.2.1
 pos : 0 < x.2.1
 agg : uX P f.type = x.2.2
 und : ∃ d, P.underlying f.type = some d
def ahj : Option TypeDesc → Bool
 | some (.pointer _) => true
 | _ => false
def fnD : Option TypeDesc → Bool
 | some (.func _ _ _) => true
 | _ => false
theorem sY {d : Option TypeDesc} (h : ahj d = true) : ∃ e, d = some (.pointer e) := by
 unfold ahj at h
 split at h
 ·exact ⟨_, rfl⟩
 ·cases h
theorem PC {d : Option TypeDesc} (h : fnD d = true) : ∃ a b c, d = some (.func a b c) := by
 unfold fnD at h
 split at h
 ·exact ⟨_, _, _, rfl⟩
 ·cases h
def cF (P : Program) (t : TypeId) : TI → Prop
 | .int k => P.underlying t = some (.int k) ∧ kI P t 1 [.int k 0]
 | .bool => P.underlying t = some .bool ∧ kI P t 1 [.bool false]
 | .str => P.underlying t = some .string ∧ kI P t 1 [.str ⟨#[]⟩]
 | .slice e n b z => P.underlying t = some (.slice e) ∧ kI P t 1 [.nil] ∧ kI P e n z ∧ ∃ i, P.info? e = some i ∧ i.bytes = b
 | .struct fs z => (∃ fields : Array Field, P.underlying t = some (.struct fields) ∧ a7 (lU P) fields.toList fs) ∧ kI P t z.length z
 | .arr e k n z => P.underlying t = some (.array k e) ∧ kI P t z.length z ∧ ∃ i, P.info? e = some i ∧ i.size = n
 | .yB => ahj (P.underlying t) = true ∧ kI P t 1 [.jI]
 | .fnT => fnD (P.underlying t) = true ∧ kI P t 1 [.undef]
 | .other => True
structure Env where
 P : Program
 ty : TypeId → TI
 ok : ∀ t, cF P t (ty t)
 mixed : P.follows .mixedOrders = true
 writes : FuncId → Bool
theorem cF.zero {P : Program} {t : TypeId} {ti : TI} (h : cF P t ti) (hk : ti.known = true) : kI P t ti.size ti.zero := by
 cases ti with
 | other => simp [TI.known] at hk
 | struct fs z => exact h.2
 | slice e n b z => exact h.2.1
 | arr e k n z => exact h.2.1
 | _ => exact h.2
theorem cF.ar1 {P : Program} {t : TypeId} {ti : TI} (h : cF P t ti) (hk : ti.known = true) : uX P t = ti.agg := by
 unfold uX
 cases ti with
 | other => simp [TI.known] at hk
 | struct fs z => obtain ⟨⟨f, h1, _⟩, _⟩ := h; rw [h1]; rfl
 | slice e n b z => rw [h.1]; rfl
 | arr e k n z => rw [h.1]; rfl
 | int k => rw [h.1]; rfl
 | bool => rw [h.1]; rfl
 | str => rw [h.1]; rfl
 | yB => obtain ⟨e, he⟩ := sY h.1; rw [he]; rfl
 | fnT => obtain ⟨a, b, c, he⟩ := PC h.1; rw [he]; rfl
theorem cF.und {P : Program} {t : TypeId} {ti : TI} (h : cF P t ti) (hk : ti.known = true) : ∃ d, P.underlying t = some d := by
 cases ti with
 | other => simp [TI.known] at hk
 | struct fs z => obtain ⟨⟨f, h1, _⟩, _⟩ := h; exact ⟨_, h1⟩
 | slice e n b z => exact ⟨_, h.1⟩
 | arr e k n z => exact ⟨_, h.1⟩
 | int k => exact ⟨_, h.1⟩
 | bool => exact ⟨_, h.1⟩
 | str => exact ⟨_, h.1⟩
 | yB => obtain ⟨e, he⟩ := sY h.1; exact ⟨_, he⟩
 | fnT => obtain ⟨a, b, c, he⟩ := PC h.1; exact ⟨_, he⟩
section runs
variable {P : Program} {w : World}
theorem yC {t : TypeId} {d : TypeDesc} (h : P.underlying t = some d) : (isAgg t).run P w = .ok (uX P t) w := by
 unfold uX
 simp only [isAgg, Sem.run_bind, run_underlying h, Result.andThen_ok, h]
 cases d <;> rfl
theorem cP {t : TypeId} {i : TypeInfo} (h : P.info? t = some i) : (Go.sizeOf t).run P w = .ok i.size w := by simp [Go.sizeOf, typeInfo, h]
end runs
structure PS where
 f : Nat → PV
 rows : Rows
 clock : Nat
def put (f : Nat → PV) (d : Option Tmp) (v : PV) : Nat → PV :=
 match d with
 | some d => fun j => if j = d then v else f j
 | none => f
def PS.put (σ : PS) (d : Option Tmp) (v : PV) : PS := { σ with f := Pm.put σ.f d v }
def aR (f : Nat → PV) : Operand → PV
 | .tmp t => f t
 | .const v => mL v
 | .func g => .fn g []
 | .global _ => .undef
def fz (rows : Rows) : PV → PV
 | .own id ver off len =>
  match rows id with
  | some r => if r.ver = ver then .sl ((r.els.drop off).take len) else .undef
  | none => .undef
 | .ptr id ver i j =>
  match rows id with
  | some r => if r.ver = ver then .rd ((r.els.getD i []).drop j) else .undef
  | none => .undef
 | .nil => .sl []
 | .iZ l => .sl l
 | p => p
def pz (rows : Rows) : PV → PV
 | .ag l => .ag (l.map (fz rows))
 | p => fz rows p
def aZ : PV → List Nat
 | .own id _ _ _ => [id]
 | .ptr id _ _ _ => [id]
 | _ => []
def dA : PV → List Nat
 | .ag l => l.flatMap aZ
 | p => aZ p
def aI (P : Program) (f : FuncId) (args : List PV) (r : PV) : Prop :=
 (∃ fn c, P.funcs[f]? = some fn ∧ fn.body = some c ∧ (fn.name == "runtime.NumGoroutine") = false) ∧
 ∀ (w : World) (S : c9) (vs : List Value), (∀ b o, S b o → b < w.heap.size) → bI S w args vs →
  Calls P f vs.toArray w fun e w' => ∃ v, e = .returned v ∧ Below w.heap.size w w' ∧
   ∃ S' : c9, (∀ b o, S b o → S' b o) ∧ (∀ b o, S' b o → S b o ∨ (w.heap.size ≤ b ∧ b < w'.heap.size)) ∧ cJ S' w' r v
def o6 (k : IntKind) (a b : Int) : Int := k.wrap (((BitVec.ofInt k.bits a) ||| (BitVec.ofInt k.bits b)).toNat : Int)
def V9 (k : IntKind) (a b : Int) : Int := k.wrap (((BitVec.ofInt k.bits a) &&& (BitVec.ofInt k.bits b)).toNat : Int)
def EA (E : Env) (op : BinOp) (t : TypeId) (x y v : PV) : Prop :=
 match x, y with
 | .int k a, .int k2 b =>
  match op with
  | .add => k = k2 ∧ v = .int k (k.wrap (a + b))
  | .sub => k = k2 ∧ v = .int k (k.wrap (a - b))
  | .mul => k = k2 ∧ v = .int k (k.wrap (a * b))
  | .quo => k = k2 ∧ b ≠ 0 ∧ v = .int k (k.wrap (a.tdiv b))
  | .rem => k = k2 ∧ b ≠ 0 ∧ v = .int k (a.tmod b)
  | .shl => 0 ≤ b ∧ v = .int k (k.wrap (a * 2 ^ (min b.toNat k.bits)))
  | .shr => 0 ≤ b ∧ v = .int k (a.fdiv (2 ^ (min b.toNat k.bits)))
  | .or => k = k2 ∧ v = .int k (o6 k a b)
  | .and => k = k2 ∧ v = .int k (V9 k a b)
  | .eql => k = k2 ∧ v = .bool (a == b)
  | .neq => k = k2 ∧ v = .bool (a != b)
  | .lss => k = k2 ∧ v = .bool (decide (a < b))
  | .leq => k = k2 ∧ v = .bool (decide (a ≤ b))
  | .gtr => k = k2 ∧ v = .bool (decide (b < a))
  | .geq => k = k2 ∧ v = .bool (decide (b ≤ a))
  | _ => False
 | .bool a, .bool b =>
  match op with
  | .eql => E.ty t = .bool ∧ v = .bool (a == b)
  | .neq => E.ty t = .bool ∧ v = .bool (a != b)
  | _ => False
 | .jI, .jI =>
  match op with
  | .eql => E.ty t = .yB ∧ v = .bool true
  | .neq => E.ty t = .yB ∧ v = .bool false
  | _ => False
 | .rd _, .jI =>
  match op with
  | .eql => E.ty t = .yB ∧ v = .bool false
  | .neq => E.ty t = .yB ∧ v = .bool true
  | _ => False
 | _, _ => False
def rG (E : Env) (t : TypeId) (rows : Rows) (p v : PV) : Prop :=
 (E.ty t).known = true ∧
 match p with
 | .rd l => if (E.ty t).agg = true then (E.ty t).size ≤ l.length ∧ v = .ag (l.take (E.ty t).size) else l[0]? = some v
 | .ptr id ver i j => ∃ r, rows id = some r ∧ r.ver = ver ∧ ∃ el, r.els[i]? = some el ∧
   (if (E.ty t).agg = true then j + (E.ty t).size ≤ el.length ∧ v = .ag ((el.drop j).take (E.ty t).size) else el[j]? = some v)
 | _ => False
def rV (E : Env) (t : TypeId) (i : Nat) (x v : PV) : Prop :=
 match E.ty t with
 | .struct fs _ => ∃ o n b, fs[i]? = some (o, n, b) ∧
  match x with
  | .ag l => if b = true then v = .ag ((l.drop o).take n) else l[o]? = some v
  | _ => False
 | _ => False
def eG (E : Env) (t : TypeId) (rows : Rows) (i : Nat) (x v : PV) : Prop :=
 match E.ty t with
 | .struct fs _ => ∃ o n b, fs[i]? = some (o, n, b) ∧
  match x with
  | .rd l => o ≤ l.length ∧ v = .rd (l.drop o)
  | .ptr id ver a j => (∃ r, rows id = some r ∧ r.ver = ver) ∧ v = .ptr id ver a (j + o)
  | _ => False
 | _ => False
def eH (E : Env) (t : TypeId) (rows : Rows) (x ix v : PV) : Prop :=
 match E.ty t with
 | .slice _ n _ _ =>
  match ix with
  | .int _ k => 0 ≤ k ∧
   match x with
   | .sl l => ∃ el, l[k.toNat]? = some el ∧ (∀ e ∈ l, e.length = n) ∧ v = .rd el
   | .iZ l => ∃ el, l[k.toNat]? = some el ∧ (∀ e ∈ l, e.length = n) ∧ v = .rd el
   | .own id ver off len => ∃ r, rows id = some r ∧ r.ver = ver ∧ r.size = n ∧ k.toNat < len ∧ v = .ptr id ver (off + k.toNat) 0
   | _ => False
  | _ => False
 | .arr _ m n _ =>
  match ix with
  | .int _ k => (0 ≤ k ∧ k.toNat < m) ∧
   match x with
   | .rd l => k.toNat * n ≤ l.length ∧ v = .rd (l.drop (k.toNat * n))
   | .ptr id ver a j => (∃ r, rows id = some r ∧ r.ver = ver) ∧ v = .ptr id ver a (j + k.toNat * n)
   | _ => False
  | _ => False
 | _ => False
def sW (d : Nat) : Option PV → Nat → Prop
 | none, n => n = d
 | some (.int _ k), n => 0 ≤ k ∧ n = k.toNat
 | some _, _ => False
def LH (l : List (List PV)) (a b : Nat) (hi mx : Option PV) (v : PV) : Prop :=
 match mx with
 | none => v = .sl ((l.take b).drop a)
 | some m => ∃ c, sW 0 (some m) c ∧ b = c ∧ hi.isSome = true ∧ v = .iZ ((l.take b).drop a)
def mM (E : Env) (t : TypeId) (rows : Rows) (x : PV) (lo hi mx : Option PV) (v : PV) : Prop :=
 match E.ty t with
 | .slice _ n _ _ =>
  match x with
  | .nil => ∃ a b, sW 0 lo a ∧ sW 0 hi b ∧ a = 0 ∧ b = 0 ∧ mx.isNone = true ∧ v = .nil
  | .sl l => ∃ a b, sW 0 lo a ∧ sW l.length hi b ∧ a ≤ b ∧ b ≤ l.length ∧ (∀ e ∈ l, e.length = n) ∧
   LH l a b hi mx v
  | .iZ l => ∃ a b, sW 0 lo a ∧ sW l.length hi b ∧ a ≤ b ∧ b ≤ l.length ∧ (∀ e ∈ l, e.length = n) ∧
   LH l a b hi mx v
  | .own id ver off len => ∃ r, rows id = some r ∧ r.ver = ver ∧ r.size = n ∧ ∃ a b, sW 0 lo a ∧ sW len hi b ∧ a ≤ b ∧ b ≤ len ∧ mx.isNone = true ∧ v = .own id ver (off + a) (b - a)
  | _ => False
 | _ => False
def SL (rows : Rows) (x : PV) (n : Nat) : Prop :=
 match x with
 | .nil => n = 0
 | .sl l => n = l.length
 | .iZ l => n = l.length
 | .own id ver _ len => (∃ r, rows id = some r ∧ r.ver = ver) ∧ n = len
 | _ => False
def dZ : PV → Option (List PV)
 | .ag l => some l
 | .bool b => some [.bool b]
 | .int k n => some [.int k n]
 | .str s => some [.str s]
 | .jI => some [.jI]
 | .nil => some [.nil]
 | .sl l => some [.sl l]
 | .iZ l => some [.iZ l]
 | .rd l => some [.rd l]
 | .fn f l => some [.fn f l]
 | _ => none
def rH (fs : List (Nat × Nat × Bool)) : List (Nat × PV) → List PV → Option (List PV)
 | [], z => some z
 | (i, p) :: ps, z =>
  match fs[i]?, dZ p with
  | some (o, n, _), some l => if l.length = n ∧ o + n ≤ z.length then rH fs ps (z.take o ++ l ++ z.drop (o + n)) else none
  | _, _ => none
def yun (op : UnOp) (x v : PV) : Prop :=
 match op, x with
 | .not, .bool b => v = .bool (!b)
 | .neg, .int k n => v = .int k (k.wrap (0 - n))
 | _, _ => False
def rI (s d : TI) (x v : PV) : Prop :=
 match s, d, x with
 | .int _, .int k, .int _ n => v = .int k (k.wrap n)
 | _, _, _ => False
def LI (i : Nat) (x v : PV) : Prop :=
 match x with
 | .eP l => l[i]? = some v
 | _ => False
def LJ (k n : Nat) : List (Nat × Nat × Bool) := (List.range k).map fun i => (i * n, n, false)
def o7 (t : TI) (parts : List (Nat × PV)) (v : PV) : Prop :=
 match t with
 | .struct fs z => ∃ l, rH fs parts z = some l ∧ v = .ag l
 | .arr _ k n z => ∃ l, rH (LJ k n) parts z = some l ∧ v = .ag l
 | _ => False
def rW (t : TI) (x ix v : PV) : Prop :=
 match t, x, ix with
 | .str, .str s, .int _ k => 0 ≤ k ∧ ∃ b, s[k.toNat]? = some b ∧ v = .int .u8 b.toNat
 | _, _, _ => False
def vP (t : TI) (rows : Rows) (x v : PV) : Prop :=
 match t with
 | .slice _ _ _ _ => ∃ n, SL rows x n ∧ v = .int .i64 n
 | _ => False
def LK (x y v : PV) : Prop :=
 match x, y with
 | .int k a, .int _ b => v = .int k (if b > a then b else a)
 | _, _ => False
def LM (x y v : PV) : Prop :=
 match x, y with
 | .int k a, .int _ b => v = .int k (if b < a then b else a)
 | _, _ => False
def BF (rows : Rows) (x v : PV) : Prop :=
 match x with
 | .rd l => v = .rd l
 | .ptr id ver i j => (∃ r, rows id = some r ∧ r.ver = ver) ∧ v = .ptr id ver i j
 | _ => False
def yv (E : Env) (op : Op) (ρ : Operand → PV) (rows : Rows) (v : PV) : Prop :=
 match op with
 | .move x => v = ρ x
 | .assign x => v = ρ x
 | .pick c a b => ∃ t, ρ c = .bool t ∧ v = if t = true then ρ a else ρ b
 | .binOp op t x y _ => EA E op t (ρ x) (ρ y) v
 | .unOp op _ x => yun op (ρ x) v
 | .convert s d x => rI (E.ty s) (E.ty d) (ρ x) v
 | .extract x i => LI i (ρ x) v
 | .load t p => rG E t rows (ρ p) v
 | .field t x i => rV E t i (ρ x) v
 | .fieldAddr t x i => eG E t rows i (ρ x) v
 | .indexAddr t x ix => eH E t rows (ρ x) (ρ ix) v
 | .slice t x lo hi mx => mM E t rows (ρ x) (lo.map ρ) (hi.map ρ) (mx.map ρ) v
 | .build t parts => o7 (E.ty t) (parts.toList.map fun x => (x.1, ρ x.2)) v
 | .index t x ix => rW (E.ty t) (ρ x) (ρ ix) v
 | .makeFunc (.func f) ⟨[]⟩ bR => (bR.toList.map fun x => ρ x).all eY = true ∧ v = .fn f (bR.toList.map fun x => ρ x)
 | .call { callee := .builtin .len, args := ⟨[x]⟩, argTypes := ⟨[t]⟩ } => vP (E.ty t) rows (ρ x) v
 | .call { callee := .builtin .max, args := ⟨[x, y]⟩, argTypes := _ } => LK (ρ x) (ρ y) v
 | .call { callee := .builtin .min, args := ⟨[x, y]⟩, argTypes := _ } => LM (ρ x) (ρ y) v
 | .nilCheck x => BF rows (ρ x) v
 | _ => False
theorem jQ {c : Cx} : ∀ v : Value, aP c (iE v) v := by
 intro v
 unfold iE
 split <;> first
  | (simp [aP, cJ]; done)
  | (simp only [aP, cJ]; exact ⟨[], rfl, by simp [bI]⟩)
theorem LN {c : Cx} (v : Value) : aK c (mL v) v := by
 unfold mL
 split
 ·rename_i cs
  simp only [aK]
  refine ⟨cs.toList, by simp, a7.cV (by simp) fun k a b ha hb => ?_⟩
  simp at ha
  obtain ⟨u, hu, rfl⟩ := ha
  have : cs.toList[k]? = some u := by simpa using hu
  rw [this] at hb; cases hb
  exact jQ _
 ·rename_i h
  have h1 := jQ (c := c) v
  revert h1
  unfold iE
  split <;> simp [aK]
theorem kP {c : Cx} {f : Nat → PV} {a : Act} (h : ∀ s, aK c (f s) (a.tmps.getD s undef)) (x : Operand) : aK c (aR f x) (a.eval x) := by
 cases x with
 | tmp t => exact h t
 | const v => exact LN v
 | global g => simp [aR, aK, aP]
 | func g => simp only [aR, aK, aP, cJ, Act.eval]; exact ⟨[], rfl, by simp [bI]⟩
section
variable {E : Env} {c : Cx}
theorem b5 {k : IntKind} {n : Int} {v : Value} : aK c (.int k n) v ↔ v = .int k n := by simp [aK, aP, cJ]
theorem cW {b : Bool} {v : Value} : aK c (.bool b) v ↔ v = .bool b := by simp [aK, aP, cJ]
theorem run_equalIn_bool {P : Program} {w : World} {t : TypeId} (h : P.underlying t = some .bool) (d : Nat) (a b : Bool) :
  (Op.equalIn (d + 1) t (.bool a) (.bool b)).run P w = .ok (a == b) w := by simp [Op.equalIn, run_underlying h]
theorem run_equal_bool {P : Program} {w : World} {t : TypeId} (h : P.underlying t = some .bool) (a b : Bool) :
  (Op.equal t (.bool a) (.bool b)).run P w = .ok (a == b) w := run_equalIn_bool h 9999 a b
theorem run_eql_bool {P : Program} {w : World} {t : TypeId} (h : P.underlying t = some .bool) (a b : Bool) :
  (binOp .eql t (.bool a) (.bool b)).run P w = .ok (.bool (a == b)) w := by
 show (do pure (Value.bool (← Op.equal t (.bool a) (.bool b))) : Sem Value).run P w = _
 simp [run_equal_bool h]
theorem run_neq_bool {P : Program} {w : World} {t : TypeId} (h : P.underlying t = some .bool) (a b : Bool) :
  (binOp .neq t (.bool a) (.bool b)).run P w = .ok (.bool (a != b)) w := by
 show (do pure (Value.bool (!(← Op.equal t (.bool a) (.bool b)))) : Sem Value).run P w = _
 simp [run_equal_bool h]; cases a <;> cases b <;> rfl
theorem w9 {P : Program} {w : World} {t e : TypeId} (h : P.underlying t = some (.pointer e)) (d : Nat) : (Op.equalIn (d + 1) t (.pointer none) (.pointer none)).run P w = .ok true w := by simp [Op.equalIn, run_underlying h]
theorem uY {P : Program} {w : World} {t e : TypeId} {a : Addr} (h : P.underlying t = some (.pointer e)) (d : Nat) : (Op.equalIn (d + 1) t (.pointer (some a)) (.pointer none)).run P w = .ok false w := by simp [Op.equalIn, run_underlying h]
theorem rJ {P : Program} {w : World} {t e : TypeId} (h : P.underlying t = some (.pointer e)) : (Op.equal t (.pointer none) (.pointer none)).run P w = .ok true w := by
 exact w9 h 9999
theorem o8 {P : Program} {w : World} {t e : TypeId} {a : Addr} (h : P.underlying t = some (.pointer e)) : (Op.equal t (.pointer (some a)) (.pointer none)).run P w = .ok false w := by
 exact uY h 9999
theorem vQ {P : Program} {w : World} {t : TypeId} {x : Option Addr} {b : Bool} (h : (Op.equal t (.pointer x) (.pointer none)).run P w = .ok b w) : (binOp .eql t (.pointer x) (.pointer none)).run P w = .ok (.bool b) w := by
 show (do pure (Value.bool (← Op.equal t (.pointer x) (.pointer none))) : Sem Value).run P w = _
 simp [h]
theorem vR {P : Program} {w : World} {t : TypeId} {x : Option Addr} {b : Bool} (h : (Op.equal t (.pointer x) (.pointer none)).run P w = .ok b w) : (binOp .neq t (.pointer x) (.pointer none)).run P w = .ok (.bool (!b)) w := by
 show (do pure (Value.bool (!(← Op.equal t (.pointer x) (.pointer none)))) : Sem Value).run P w = _
 simp [h]
theorem G8 {v : Value} : aK c .jI v ↔ v = .pointer none := by simp [aK, aP, cJ]
theorem WA {op : BinOp} {t : TypeId} {ox oy : Operand} {x y v : PV} {vx vy : Value} (hx : aK c x vx) (hy : aK c y vy) (h : EA E op t x y v) :
  ∃ v', (do eqGuard op t ox oy vx vy; binOp op t vx vy : Sem Value).run E.P c.w = .ok v' c.w ∧ aK c v v' := by
 unfold EA at h
 split at h
 ·rename_i k a k2 b
  rw [b5] at hx hy
  subst hx hy
  cases op <;> simp only at h
  case shl => obtain ⟨h1, rfl⟩ := h; exact ⟨_, by simp [eqGuard, binOp, Op.shift, show ¬ b < 0 by omega], b5.2 rfl⟩
  case shr => obtain ⟨h1, rfl⟩ := h; exact ⟨_, by simp [eqGuard, binOp, Op.shift, show ¬ b < 0 by omega], b5.2 rfl⟩
  case quo => obtain ⟨rfl, h1, rfl⟩ := h; exact ⟨_, by simp [eqGuard, binOp, Op.intDiv, h1], b5.2 rfl⟩
  case rem => obtain ⟨rfl, h1, rfl⟩ := h; exact ⟨_, by simp [eqGuard, binOp, Op.intDiv, h1], b5.2 rfl⟩
  case add => obtain ⟨rfl, rfl⟩ := h; exact ⟨_, by simp [eqGuard, binOp, Op.intArith], b5.2 rfl⟩
  case sub => obtain ⟨rfl, rfl⟩ := h; exact ⟨_, by simp [eqGuard, binOp, Op.intArith], b5.2 rfl⟩
  case mul => obtain ⟨rfl, rfl⟩ := h; exact ⟨_, by simp [eqGuard, binOp, Op.intArith], b5.2 rfl⟩
  case or => obtain ⟨rfl, rfl⟩ := h; exact ⟨_, by simp [eqGuard, binOp, Op.intBits, o6], b5.2 rfl⟩
  case and => obtain ⟨rfl, rfl⟩ := h; exact ⟨_, by simp [eqGuard, binOp, Op.intBits, V9], b5.2 rfl⟩
  case eql => obtain ⟨rfl, rfl⟩ := h; exact ⟨_, by simp [eqGuard, binOp, Op.intCmp], cW.2 rfl⟩
  case neq => obtain ⟨rfl, rfl⟩ := h; exact ⟨_, by simp [eqGuard, binOp, Op.intCmp], cW.2 rfl⟩
  case lss => obtain ⟨rfl, rfl⟩ := h; exact ⟨_, by simp [eqGuard, binOp, Op.intCmp], cW.2 rfl⟩
  case leq => obtain ⟨rfl, rfl⟩ := h; exact ⟨_, by simp [eqGuard, binOp, Op.intCmp], cW.2 rfl⟩
  case gtr => obtain ⟨rfl, rfl⟩ := h; exact ⟨_, by simp [eqGuard, binOp, Op.intCmp], cW.2 rfl⟩
  case geq => obtain ⟨rfl, rfl⟩ := h; exact ⟨_, by simp [eqGuard, binOp, Op.intCmp], cW.2 rfl⟩
  all_goals exact False.elim h
 ·rename_i a b
  rw [cW] at hx hy
  subst hx hy
  have hb : E.ty t = .bool → E.P.underlying t = some .bool := fun he => by have := E.ok t; rw [he] at this; exact this.1
  cases op <;> simp only at h
  case eql => obtain ⟨h1, rfl⟩ := h; exact ⟨_, by simp [eqGuard, run_eql_bool (hb h1)], cW.2 rfl⟩
  case neq => obtain ⟨h1, rfl⟩ := h; exact ⟨_, by simp [eqGuard, run_neq_bool (hb h1)], cW.2 rfl⟩
  all_goals exact False.elim h
 ·rw [G8] at hx hy
  subst hx hy
  have hb : E.ty t = .yB → ∃ e, E.P.underlying t = some (.pointer e) := fun he => by have := E.ok t; rw [he] at this; exact sY this.1
  cases op <;> simp only at h
  case eql => obtain ⟨h1, rfl⟩ := h; obtain ⟨e, he⟩ := hb h1; exact ⟨_, by simp [eqGuard, vQ (rJ he)], cW.2 rfl⟩
  case neq => obtain ⟨h1, rfl⟩ := h; obtain ⟨e, he⟩ := hb h1; exact ⟨_, by simp [eqGuard, vR (rJ he)], cW.2 rfl⟩
  all_goals exact False.elim h
 ·rw [G8] at hy
  simp only [aK, aP, cJ] at hx
  obtain ⟨b, o, rfl, _⟩ := hx
  subst hy
  have hb : E.ty t = .yB → ∃ e, E.P.underlying t = some (.pointer e) := fun he => by have := E.ok t; rw [he] at this; exact sY this.1
  cases op <;> simp only at h
  case eql => obtain ⟨h1, rfl⟩ := h; obtain ⟨e, he⟩ := hb h1; exact ⟨_, by simp [eqGuard, vQ (o8 he)], cW.2 rfl⟩
  case neq => obtain ⟨h1, rfl⟩ := h; obtain ⟨e, he⟩ := hb h1; exact ⟨_, by simp [eqGuard, vR (o8 he)], cW.2 rfl⟩
  all_goals exact False.elim h
 ·exact False.elim h
theorem gF {S : c9} {w : World} : ∀ {l : List PV} {b o : Nat}, cK S w b o l → ∀ {k : Nat} {p : PV}, l[k]? = some p → ∃ v, w.cell? ⟨b, o + k, none⟩ = some v ∧ S b (o + k) ∧ v.oneCell' = true ∧ cJ S w p v
 | [], _, _, _, _, _, h => by simp at h
 | q :: l, b, o, hr, 0, p, h => by simp at h; subst h; exact hr.1
 | q :: l, b, o, hr, k + 1, p, h => by
  have := gF hr.2 (k := k) (by simpa using h)
  rw [show o + 1 + k = o + (k + 1) by omega] at this; exact this
theorem iL {S : c9} {w : World} : ∀ {l : List PV} {b o : Nat}, (∀ k p, l[k]? = some p → ∃ v, w.cell? ⟨b, o + k, none⟩ = some v ∧ S b (o + k) ∧ v.oneCell' = true ∧ cJ S w p v) → cK S w b o l
 | [], _, _, _ => trivial
 | q :: l, b, o, h => ⟨by simpa using h 0 q (by simp), iL fun k p hp => by
   have := h (k + 1) p (by simpa using hp)
   rw [show o + (k + 1) = o + 1 + k by omega] at this; exact this⟩
theorem rK {S : c9} {w : World} {l : List PV} {b o : Nat} (h : cK S w b o l) (d : Nat) : cK S w b (o + d) (l.drop d) :=
 iL fun k p hp => by
  rw [List.getElem?_drop] at hp
  have := gF h hp
  rw [show o + (d + k) = o + d + k by omega] at this; exact this
theorem gV (b o k : Nat) : (⟨b, o, none⟩ : Addr).add k = ⟨b, o + k, none⟩ := by unfold Addr.add; split <;> simp_all
theorem iF {S : c9} {w : World} {n : Nat} : ∀ {l : List (List PV)} {b o : Nat}, eF S w b o l → (∀ e ∈ l, e.length = n) → ∀ {k : Nat} {e : List PV}, l[k]? = some e → cK S w b (o + k * n) e
 | [], _, _, _, _, _, _, h => by simp at h
 | q :: l, b, o, hr, _, 0, p, h => by simp at h; subst h; simpa using hr.1
 | q :: l, b, o, hr, hn, k + 1, p, h => by
  have := iF hr.2 (fun e he => hn e (by simp [he])) (k := k) (by simpa using h)
  rw [hn q (by simp), show o + n + k * n = o + (k + 1) * n by rw [Nat.add_mul]; omega] at this; exact this
theorem mW {S : c9} {w : World} {n : Nat} : ∀ {l : List (List PV)} {b o : Nat}, (∀ e ∈ l, e.length = n) → (∀ k e, l[k]? = some e → cK S w b (o + k * n) e) → eF S w b o l
 | [], _, _, _, _ => trivial
 | q :: l, b, o, hn, h => ⟨by simpa using h 0 q (by simp), mW (n := n) (fun e he => hn e (by simp [he])) fun k e hk => by
   have := h (k + 1) e (by simpa using hk)
   rw [hn q (by simp), show o + n + k * n = o + (k + 1) * n by rw [Nat.add_mul]; omega]; exact this⟩
theorem yD {P : Program} {w : World} {t : TypeId} {ti : TI} (ht : cF P t ti) (hk : ti.known = true) {b o : Nat} {vs : List Value} (hl : vs.length = ti.size)
  (h : ∀ k v, vs[k]? = some v → w.cell? ⟨b, o + k, none⟩ = some v) :
  (Instr.loadAt t (.pointer (some ⟨b, o, none⟩))).run P w = .ok (if ti.agg = true then .agg vs.toArray else vs.getD 0 undef) w := by
 obtain ⟨d, hd⟩ := ht.und hk
 obtain ⟨i, z, hi, _, hs, _, _⟩ := (ht.zero hk).ok
 have mN : i.size = vs.length := by rw [hs, hl]
 simp only [Instr.loadAt, Instr.sureAddr, Sem.run_bind, Sem.run_pure, Result.andThen_ok, loadVar, yC hd, ht.ar1 hk]
 by_cases ha : ti.agg = true
 ·simp only [ha, if_true, Sem.run_bind, cP hi, Result.andThen_ok, mN]
  rw [run_loadCells_list (P := P) w ⟨b, o, none⟩ vs (fun j v hj => by rw [gV]; exact h j v hj)]
  simp
 ·have CB : ti.agg = false := by simpa using ha
  simp only [CB]
  have h1 : vs.length = 1 := by
   rw [hl]; cases ti <;> simp_all [TI.agg, TI.size, TI.zero, TI.known]
  match vs, h1 with
  | [x], _ =>
   have := h 0 x (by simp)
   simp [load, Sem.run, show w.cell? ⟨b, o, none⟩ = some x by simpa using this]
end
theorem iM {α : Type} {n : Nat} : ∀ {l : List (List α)}, (∀ e ∈ l, e.length = n) → ∀ {i : Nat} {e : List α}, l[i]? = some e → ∀ {j : Nat} {p : α}, e[j]? = some p → l.flatten[i * n + j]? = some p
 | [], _, _, _, h, _, _, _ => by simp at h
 | q :: l, hn, 0, e, h, j, p, hp => by
  simp at h; subst h
  have hj : j < q.length := (List.getElem?_eq_some_iff.1 hp).1
  simp [List.getElem?_append_left hj, hp]
 | q :: l, hn, i + 1, e, h, j, p, hp => by
  have := iM (l := l) (n := n) (fun e he => hn e (by simp [he])) (i := i) (by simpa using h) hp
  have hq : q.length = n := hn q (by simp)
  rw [List.flatten_cons, List.getElem?_append_right (by rw [hq, Nat.add_mul]; omega), hq, show (i + 1) * n + j - n = i * n + j by rw [Nat.add_mul]; omega]
  exact this
section
variable {E : Env} {c : Cx} {w0 : World} {S0 : c9}
theorem sZ (hI : Inv w0 S0 c) {id : Nat} {r : Row} (hr : c.rows id = some r) {g n cap : Nat} (hβ : c.β id = .slice (some ⟨g, 0, none⟩) n cap) {i j : Nat} {el : List PV} {p : PV} (hi : r.els[i]? = some el) (hj : el[j]? = some p) :
  ∃ v, c.w.cell? ⟨g, i * r.size + j, none⟩ = some v ∧ v.oneCell' = true ∧ aP c p v := by
 obtain ⟨⟨xs, h1, h2, h3⟩, hlen, _, kH⟩ := hI.row id r hr
 have hf := iM hlen hi hj
 obtain ⟨v, hv, fD⟩ := h2.get hf
 have hn : n = r.els.length := by
  rw [hβ] at h1
  rcases h1.2 with ⟨h, _⟩ | ⟨g', jR, cur, h, _⟩
  ·simp at h
  ·simp at h; exact h.2.1
 rw [hβ] at h1
 subst hn
 have eZ : i * r.size + j < r.els.length * r.size := by
  have := (List.getElem?_eq_some_iff.1 hv).1
  rw [h1.1] at this; exact this
 exact ⟨v, by rw [h1.cellAt _ eZ]; exact hv, h3 v (List.mem_of_getElem? hv), fD⟩
theorem s0 {p : PV} {v : Value} (h : aP c p v) : aK c p v := by
 cases p with
 | ag l => exact aK.i0 (p := .ag l) (by simpa only [aP] using h)
 | _ => simpa only [aK] using h
theorem CD {t : TypeId} {p v : PV} {vp : Value} (hI : Inv w0 S0 c) (hp : aK c p vp) (h : rG E t c.rows p v) :
  ∃ v', (Instr.loadAt t vp).run E.P c.w = .ok v' c.w ∧ aK c v v' := by
 obtain ⟨hk, h⟩ := h
 have key : ∀ (b o : Nat) (l : List PV), (∀ k q, l[k]? = some q → ∃ u, c.w.cell? ⟨b, o + k, none⟩ = some u ∧ u.oneCell' = true ∧ aP c q u) →
   (if (E.ty t).agg = true then (E.ty t).size ≤ l.length ∧ v = .ag (l.take (E.ty t).size) else l[0]? = some v) →
   ∃ v', (Instr.loadAt t (.pointer (some ⟨b, o, none⟩))).run E.P c.w = .ok v' c.w ∧ aK c v v' := by
  intro b o l hl hv
  by_cases ha : (E.ty t).agg = true
  ·rw [if_pos ha] at hv
   obtain ⟨hn, rfl⟩ := hv
   have : ∃ vs : List Value, vs.length = (E.ty t).size ∧ ∀ k, k < (E.ty t).size → ∀ q, l[k]? = some q → ∃ u, vs[k]? = some u ∧ c.w.cell? ⟨b, o + k, none⟩ = some u ∧ aP c q u := by
    refine ⟨(List.range (E.ty t).size).map fun k => (c.w.cell? ⟨b, o + k, none⟩).getD undef, by simp, fun k hk q hq => ?_⟩
    obtain ⟨u, hu, _, hr⟩ := hl k q hq
    exact ⟨u, by simp [hk, hu], hu, hr⟩
   obtain ⟨vs, LO, HC⟩ := this
   have WB : ∀ k u, vs[k]? = some u → c.w.cell? ⟨b, o + k, none⟩ = some u := by
    intro k u hu
    have vS : k < (E.ty t).size := by rw [← LO]; exact (List.getElem?_eq_some_iff.1 hu).1
    obtain ⟨u', h1, h2, _⟩ := HC k vS l[k] (by simp [List.getElem?_eq_getElem (show k < l.length by omega)])
    rw [hu] at h1; cases h1; exact h2
   refine ⟨_, yD (E.ok t) hk LO WB, ?_⟩
   rw [if_pos ha]
   refine ⟨vs, rfl, a7.cV (by simp [LO]; omega) fun k q u hq hu => ?_⟩
   rw [List.getElem?_take] at hq
   split at hq
   ·rename_i vS
    obtain ⟨u', h1, _, h3⟩ := HC k vS q hq
    rw [hu] at h1; cases h1; exact h3
   ·cases hq
  ·rw [if_neg ha] at hv
   obtain ⟨u, hu, ho, hr⟩ := hl 0 v hv
   have h1 : (E.ty t).size = 1 := by
    cases hE : E.ty t <;> simp_all [TI.agg, TI.size, TI.zero, TI.known]
   refine ⟨_, yD (vs := [u]) (E.ok t) hk (by simp [h1]) (fun k x hx => ?_), ?_⟩
   ·match k with
    | 0 => simp at hx; subst hx; exact hu
    | k + 1 => simp at hx
   ·rw [if_neg ha]; exact s0 hr
 cases p with
 | rd l =>
  simp only [aK, aP, cJ] at hp
  obtain ⟨b, o, rfl, hc⟩ := hp
  exact key b o l (fun k q hq => let ⟨u, h1, _, h3, h4⟩ := gF hc hq; ⟨u, h1, h3, aP.i0 h4⟩) h
 | ptr id ver i j =>
  simp only at h
  obtain ⟨r, hr, jJ, el, kX, hh⟩ := h
  simp only [aK, aP] at hp
  obtain ⟨g, n, cap, hβ, rfl⟩ := hp.2 r hr jJ
  refine key g (i * r.size + j) (el.drop j) (fun k q hq => ?_) ?_
  ·rw [List.getElem?_drop] at hq
   have := sZ hI hr hβ kX hq
   rw [show i * r.size + (j + k) = i * r.size + j + k by omega] at this; exact this
  ·split at hh
   ·rename_i ha; rw [if_pos ha]; exact ⟨by rw [List.length_drop]; omega, hh.2⟩
   ·rename_i ha; rw [if_neg ha]; simpa using hh
 | _ => exact False.elim h
theorem LP {t : TypeId} {i : Nat} {x v : PV} {vx : Value} (hx : aK c x vx) (h : rV E t i x v) :
  ∃ v', (Instr.field t vx i).run E.P c.w = .ok v' c.w ∧ aK c v v' := by
 unfold rV at h
 split at h
 ·rename_i fs z hE
  obtain ⟨o, n, b, hf, h⟩ := h
  split at h
  ·rename_i l
   have ht := E.ok t
   rw [hE] at ht
   obtain ⟨⟨fields, hu, ha⟩, _⟩ := ht
   obtain ⟨vs, rfl, HC⟩ := hx
   obtain ⟨fd, hfd, fL⟩ : ∃ fd, fields[i]? = some fd ∧ lU E.P fd (o, n, b) := by
    have hlen := ha.length
    have hi : i < fields.toList.length := by rw [hlen]; exact (List.getElem?_eq_some_iff.1 hf).1
    obtain ⟨y, hy, hyy⟩ := ha.get (k := i) (a := fields.toList[i]) (by simp [List.getElem?_eq_getElem hi])
    rw [hf] at hy; cases hy
    exact ⟨_, by simp, hyy⟩
   obtain ⟨inf, hi1, BB⟩ := fL.size
   obtain ⟨d, hd⟩ := fL.und
   have WC : fd.offset = o := fL.off
   simp only [Instr.field, Sem.run_bind, run_underlying hu, Result.andThen_ok, hfd, asAgg, Sem.run_pure, part, yC hd, fL.agg]
   by_cases hb : b = true
   ·subst hb
    simp only [if_true] at h
    subst h
    simp only [if_true, Sem.run_bind, cP hi1, Result.andThen_ok, Sem.run_pure, WC, BB]
    refine ⟨_, rfl, (vs.drop o).take n, ?_, (HC.drop o).take n⟩
    congr 1
    apply Array.ext'
    simp [List.extract_eq_take_drop]
   ·have yA : b = false := by simpa using hb
    subst yA
    simp only [Bool.false_eq_true, if_false] at h ⊢
    obtain ⟨u, SM, hr⟩ := HC.get h
    refine ⟨u, ?_, s0 hr⟩
    rw [WC]
    simp [SM]
  ·exact False.elim h
 ·exact False.elim h
theorem EB {t : TypeId} {fs : List (Nat × Nat × Bool)} {z : List PV} {i o n : Nat} {b : Bool} (hE : E.ty t = .struct fs z) (hf : fs[i]? = some (o, n, b)) :
  ∃ (fields : Array Field) (fd : Field), E.P.underlying t = some (.struct fields) ∧ fields[i]? = some fd ∧ lU E.P fd (o, n, b) := by
 have ht := E.ok t
 rw [hE] at ht
 obtain ⟨⟨fields, hu, ha⟩, _⟩ := ht
 have hlen := ha.length
 have hi : i < fields.toList.length := by rw [hlen]; exact (List.getElem?_eq_some_iff.1 hf).1
 obtain ⟨y, hy, hyy⟩ := ha.get (k := i) (a := fields.toList[i]) (by simp [List.getElem?_eq_getElem hi])
 rw [hf] at hy; cases hy
 exact ⟨fields, _, hu, by simp, hyy⟩
theorem vT {t : TypeId} {fs : List (Nat × Nat × Bool)} {z : List PV} {i o n : Nat} {b : Bool} (hE : E.ty t = .struct fs z) (hf : fs[i]? = some (o, n, b)) (g off : Nat) :
  (Instr.fieldAt t (.pointer (some ⟨g, off, none⟩)) i).run E.P c.w = .ok (.pointer (some ⟨g, off + o, none⟩)) c.w := by
 obtain ⟨fields, fd, hu, hfd, fL⟩ := EB hE hf
 obtain ⟨inf, hi1, BB⟩ := fL.size
 have kH : 0 < n := fL.pos
 have ar3 : inf.size = n := BB
 have WC : fd.offset = o := fL.off
 simp only [Instr.fieldAt, Sem.run_bind, run_underlying hu, Result.andThen_ok, hfd, Instr.sureAddr, Sem.run_pure, fieldPlace, cP hi1, ar3]
 rw [if_neg (by omega)]
 simp [gV, WC]
theorem yE {t : TypeId} {i : Nat} {x v : PV} {vx : Value} (hx : aK c x vx) (h : eG E t c.rows i x v) :
  ∃ v', (Instr.fieldAt t vx i).run E.P c.w = .ok v' c.w ∧ aK c v v' := by
 unfold eG at h
 split at h
 ·rename_i fs z hE
  obtain ⟨o, n, b, hf, h⟩ := h
  split at h
  ·obtain ⟨_, rfl⟩ := h
   simp only [aK, aP, cJ] at hx
   obtain ⟨g, off, rfl, hc⟩ := hx
   exact ⟨_, vT hE hf g off, by simp only [aK, aP, cJ]; exact ⟨g, off + o, rfl, rK hc o⟩⟩
  ·obtain ⟨⟨r, hr, jJ⟩, rfl⟩ := h
   simp only [aK, aP] at hx ⊢
   obtain ⟨g, m, cap, hβ, rfl⟩ := hx.2 r hr jJ
   refine ⟨_, vT hE hf g _, hx.1, fun r' jP _ => ?_⟩
   rw [hr] at jP; cases jP
   exact ⟨g, m, cap, hβ, by rw [Nat.add_assoc]⟩
  ·exact False.elim h
 ·exact False.elim h
theorem eI {t e : TypeId} {n b : Nat} {z : List PV} (hE : E.ty t = .slice e n b z) :
  E.P.underlying t = some (.slice e) ∧ 0 < n ∧ z.length = n ∧ ∃ i zv, E.P.info? e = some i ∧ i.zero = some zv ∧ i.size = n ∧ i.bytes = b ∧ zv.cells.toList.map iE = z ∧ zv.cells.all (·.oneCell') = true := by
 have ht := E.ok t
 rw [hE] at ht
 obtain ⟨h1, _, h3, i, h4, h5⟩ := ht
 obtain ⟨i', v, g1, g2, g3, g4, g5⟩ := h3.ok
 rw [h4] at g1; cases g1
 exact ⟨h1, h3.pos, h3.len, i, v, h4, g2, g3, h5, g4, g5⟩
theorem lV {t e : TypeId} {n b : Nat} {z : List PV} (hE : E.ty t = .slice e n b z) {g o len cap : Nat} {kk : IntKind} {k : Int} (h0 : 0 ≤ k) (h1 : k.toNat < len) :
  (Instr.indexAt t (.slice (some ⟨g, o, none⟩) len cap) (.int kk k)).run E.P c.w = .ok (.pointer (some ⟨g, o + k.toNat * n, none⟩)) c.w := by
 obtain ⟨hu, hn, _, i, zv, hi, _, hs, _, _, _⟩ := eI hE
 have h2 : 0 ≤ k ∧ k < (len : Int) := ⟨h0, by omega⟩
 simp [Instr.indexAt, run_underlying hu, asIntOf, h2, cP hi, hs, gV]
theorem CE {t e : TypeId} {m n : Nat} {z : List PV} (hE : E.ty t = .arr e m n z) {g o : Nat} {kk : IntKind} {k : Int} (h0 : 0 ≤ k) (h1 : k.toNat < m) :
  (Instr.indexAt t (.pointer (some ⟨g, o, none⟩)) (.int kk k)).run E.P c.w = .ok (.pointer (some ⟨g, o + k.toNat * n, none⟩)) c.w := by
 have ht := E.ok t
 rw [hE] at ht
 obtain ⟨hu, _, i, hi, hs⟩ := ht
 have h2 : 0 ≤ k ∧ k < (m : Int) := ⟨h0, by omega⟩
 simp [Instr.indexAt, run_underlying hu, asIntOf, h2, cP hi, hs, gV, Instr.sureAddr]
theorem o9 (hI : Inv w0 S0 c) {id : Nat} {r : Row} (hr : c.rows id = some r) (qG : 0 < r.els.length) : ∃ g cap, c.β id = .slice (some ⟨g, 0, none⟩) r.els.length cap := by
 obtain ⟨⟨xs, h1, _, _⟩, _⟩ := hI.row id r hr
 rcases h1.2 with ⟨_, h⟩ | ⟨g', jR, cur, h, _⟩
 ·omega
 ·exact ⟨g', jR, h⟩
theorem yF {t : TypeId} {x ix v : PV} {vx vi : Value} (hI : Inv w0 S0 c) (hx : aK c x vx) (hi : aK c ix vi) (h : eH E t c.rows x ix v) :
  ∃ v', (Instr.indexAt t vx vi).run E.P c.w = .ok v' c.w ∧ aK c v v' := by
 unfold eH at h
 split at h
 ·rename_i e n b z hE
  split at h
  ·rename_i kk k
   rw [b5] at hi
   subst hi
   obtain ⟨h0, h⟩ := h
   split at h
   ·obtain ⟨el, kX, hn, rfl⟩ := h
    simp only [aK, aP, cJ] at hx ⊢
    obtain ⟨a, cap, rfl, _, _, hh⟩ := hx
    have eZ := (List.getElem?_eq_some_iff.1 kX).1
    rcases hh with rfl | ⟨g, o, rfl, hh⟩
    ·simp at kX
    ·exact ⟨_, lV hE h0 eZ, g, _, rfl, iF hh hn kX⟩
   ·obtain ⟨el, kX, hn, rfl⟩ := h
    simp only [aK, aP, cJ] at hx ⊢
    obtain ⟨a, rfl, _, hh⟩ := hx
    have eZ := (List.getElem?_eq_some_iff.1 kX).1
    rcases hh with rfl | ⟨g, o, rfl, hh⟩
    ·simp at kX
    ·exact ⟨_, lV hE h0 eZ, g, _, rfl, iF hh hn kX⟩
   ·rename_i id ver off len
    obtain ⟨r, hr, jJ, mN, eZ, rfl⟩ := h
    simp only [aK, aP] at hx ⊢
    obtain ⟨WD, hx⟩ := hx
    obtain ⟨hle, hx⟩ := hx r hr jJ
    rcases hx with ⟨rfl, a, m, cap, hβ, rfl⟩ | ⟨kH, g, m, cap, a, hβ, hoc, rfl, ha⟩
    ·obtain ⟨g, jR, pA⟩ := o9 hI hr (by omega)
     rw [hβ] at pA
     simp only [Value.slice.injEq] at pA
     obtain ⟨rfl, rfl, rfl⟩ := pA
     refine ⟨_, lV hE h0 eZ, WD, fun r' jP _ => ?_⟩
     rw [hr] at jP; cases jP
     exact ⟨g, _, _, hβ, by rw [← mN]; simp⟩
    ·rcases ha with ha | rfl
     ·omega
     ·refine ⟨_, lV hE h0 eZ, WD, fun r' jP _ => ?_⟩
      rw [hr] at jP; cases jP
      exact ⟨g, m, cap, hβ, by rw [← mN, Nat.add_mul, Nat.add_zero]⟩
   ·exact False.elim h
  ·exact False.elim h
 ·rename_i e m n z hE
  split at h
  ·rename_i kk k
   rw [b5] at hi
   subst hi
   obtain ⟨⟨h0, h1⟩, h⟩ := h
   split at h
   ·obtain ⟨_, rfl⟩ := h
    simp only [aK, aP, cJ] at hx
    obtain ⟨g, off, rfl, hc⟩ := hx
    exact ⟨_, CE hE h0 h1, by simp only [aK, aP, cJ]; exact ⟨g, off + k.toNat * n, rfl, rK hc _⟩⟩
   ·obtain ⟨⟨r, hr, jJ⟩, rfl⟩ := h
    simp only [aK, aP] at hx ⊢
    obtain ⟨g, m', cap, hβ, rfl⟩ := hx.2 r hr jJ
    refine ⟨_, CE hE h0 h1, hx.1, fun r' jP _ => ?_⟩
    rw [hr] at jP; cases jP
    exact ⟨g, m', cap, hβ, by rw [Nat.add_assoc]⟩
   ·exact False.elim h
  ·exact False.elim h
 ·exact False.elim h
theorem EC {P : Program} {w : World} {kk : IntKind} {k : Int} {y : Nat} {code : BoundsCode} (h0 : 0 ≤ k) (h1 : k ≤ y) :
  (Instr.sliceBound (.int kk k) y code).run P w = .ok k.toNat w := by
 have h2 : 0 ≤ k ∧ k ≤ (y : Int) := ⟨h0, h1⟩
 simp [Instr.sliceBound, asIntOf, h2]
theorem LQ {P : Program} {w : World} {len cap : Nat} {lo hi mx : Option PV} {vlo vhi vmx : Option Value} {a b m : Nat}
  (ED : ∀ p, lo = some p → ∃ u, vlo = some u ∧ aK c p u) (ar5 : lo = none → vlo = none)
  (SN : ∀ p, hi = some p → ∃ u, vhi = some u ∧ aK c p u) (ar6 : hi = none → vhi = none)
  (PE : ∀ p, mx = some p → ∃ u, vmx = some u ∧ aK c p u) (ar7 : mx = none → vmx = none)
  (h1 : sW 0 lo a) (h2 : sW len hi b) (h3 : sW cap mx m) (hm : mx.isSome = true → hi.isSome = true) (gE : a ≤ b) (hbm : b ≤ m) (hmc : m ≤ cap) :
  (Instr.sliceBounds true len cap vlo vhi vmx).run P w = .ok (a, b, m) w := by
 have key : ∀ {d y n : Nat} {o : Option PV} {vo : Option Value} {code : BoundsCode}, (∀ p, o = some p → ∃ u, vo = some u ∧ aK c p u) → (o = none → vo = none) → sW d o n → n ≤ y →
   (o = none ∧ vo = none ∧ n = d) ∨ ∃ kk k, vo = some (.int kk k) ∧ k.toNat = n ∧ o.isSome = true ∧ ∀ code, (Instr.sliceBound (.int kk k) y code).run P w = .ok n w := by
  intro d y n o vo code ho ho' hy hn
  cases o with
  | none => exact .inl ⟨rfl, ho' rfl, hy⟩
  | some p =>
   cases p with
   | int kk k =>
    obtain ⟨u, hu, hr⟩ := ho _ rfl
    rw [b5] at hr
    subst hr
    obtain ⟨g1, g2⟩ := hy
    exact .inr ⟨kk, k, hu, g2.symm, rfl, fun code => by rw [EC g1 (by omega), g2]⟩
   | _ => exact False.elim hy
 rcases key (y := b) (code := .index) ED ar5 h1 gE with ⟨rfl, rfl, rfl⟩ | ⟨_, _, rfl, _, _, g1⟩ <;>
 rcases key (y := m) (code := .index) SN ar6 h2 hbm with ⟨rfl, rfl, rfl⟩ | ⟨_, _, rfl, _, _, g2⟩ <;>
 rcases key (y := cap) (code := .index) PE ar7 h3 hmc with ⟨rfl, rfl, rfl⟩ | ⟨_, _, rfl, _, WE, g3⟩ <;>
 first
  | (simp only [Instr.sliceBounds, Sem.run_bind, Sem.run_pure, Result.andThen_ok, *]; done)
  | (have := hm WE; simp at this)
end
section
variable {E : Env} {c : Cx} {w0 : World} {S0 : c9}
def LR (c : Cx) (p : Option PV) (v : Option Value) : Prop := (∀ q, p = some q → ∃ u, v = some u ∧ aK c q u) ∧ (p = none → v = none)
theorem j7 {t e : TypeId} {n bb : Nat} {z : List PV} (hE : E.ty t = .slice e n bb z) {A : Option Addr} {len cap : Nat} {lo hi mx : Option PV} {vlo vhi vmx : Option Value} {a b m : Nat}
  (ED : LR c lo vlo) (SN : LR c hi vhi) (PE : LR c mx vmx)
  (h1 : sW 0 lo a) (h2 : sW len hi b) (h3 : sW cap mx m) (hm : mx.isSome = true → hi.isSome = true) (gE : a ≤ b) (hbm : b ≤ m) (hmc : m ≤ cap) :
  (Instr.sliceAt t (.slice A len cap) vlo vhi vmx).run E.P c.w = .ok (.slice (if m = a then A else A.map (·.add (a * n))) (b - a) (m - a)) c.w := by
 obtain ⟨hu, hn, _, i, zv, kY, _, hs, _, _, _⟩ := eI hE
 have hb := LQ (P := E.P) (w := c.w) ED.1 ED.2 SN.1 SN.2 PE.1 PE.2 h1 h2 h3 hm gE hbm hmc
 simp [Instr.sliceAt, Instr.slice, run_underlying hu, hb, cP kY, hs]
theorem LS {S : c9} {w : World} {n : Nat} {l : List (List PV)} {g o : Nat} (h : eF S w g o l) (hn : ∀ e ∈ l, e.length = n) (a b : Nat) : eF S w g (o + a * n) ((l.take b).drop a) := by
 refine mW (n := n) (fun e he => hn e (List.mem_of_mem_take (List.mem_of_mem_drop he))) fun k e hk => ?_
 rw [List.getElem?_drop, List.getElem?_take] at hk
 split at hk
 ·have := iF h hn hk
  rw [show o + a * n + k * n = o + (a + k) * n by rw [Nat.add_mul]; omega]; exact this
 ·cases hk
theorem LU {t : TypeId} {x v : PV} {lo hi mx : Option PV} {vx : Value} {vlo vhi vmx : Option Value} (hI : Inv w0 S0 c) (hx : aK c x vx) (ED : LR c lo vlo) (SN : LR c hi vhi) (PE : LR c mx vmx)
  (h : mM E t c.rows x lo hi mx v) : ∃ v', (Instr.sliceAt t vx vlo vhi vmx).run E.P c.w = .ok v' c.w ∧ aK c v v' := by
 unfold mM at h
 split at h
 ·rename_i e n bb z hE
  have sub : ∀ (l : List (List PV)) (A : Option Addr) (cap a b : Nat), l.length ≤ cap → cap ≤ maxLen → (l = [] ∨ ∃ g o, A = some ⟨g, o, none⟩ ∧ eF c.S c.w g o l) →
    (∀ e ∈ l, e.length = n) → sW 0 lo a → sW l.length hi b → a ≤ b → b ≤ l.length →
    LH l a b hi mx v →
    ∃ v', (Instr.sliceAt t (.slice A l.length cap) vlo vhi vmx).run E.P c.w = .ok v' c.w ∧ aK c v v' := by
   intro l A cap a b hlc hcm fD hn h1 h2 gE V1 h
   have hlen : ((l.take b).drop a).length = b - a := by simp; omega
   have addr : ∀ m, b ≤ m → (l.take b).drop a = [] ∨ ∃ g o, (if m = a then A else A.map (·.add (a * n))) = some ⟨g, o, none⟩ ∧ eF c.S c.w g o ((l.take b).drop a) := by
    intro m hm
    rcases Nat.lt_or_ge a b with eZ | hge
    ·right
     rcases fD with rfl | ⟨g, o, rfl, hr⟩
     ·simp at V1; omega
     ·rw [if_neg (by omega)]
      exact ⟨g, o + a * n, by simp [gV], LS hr hn a b⟩
    ·left; exact List.eq_nil_of_length_eq_zero (by rw [hlen]; omega)
   cases mx with
   | none =>
    simp only [LH] at h
    subst h
    refine ⟨_, j7 hE ED SN PE h1 h2 (m := cap) (by simp [sW]) (by simp) gE (by omega) (Nat.le_refl _), ?_⟩
    simp only [aK, aP, cJ]
    exact ⟨_, cap - a, by rw [hlen], by rw [hlen]; omega, by omega, addr cap (by omega)⟩
   | some m =>
    simp only [LH] at h
    obtain ⟨c', hc', rfl, WE, rfl⟩ := h
    have h3 : sW cap (some m) b := by cases m <;> simp_all [sW]
    refine ⟨_, j7 hE ED SN PE h1 h2 h3 (fun _ => WE) gE (Nat.le_refl _) (by omega), ?_⟩
    simp only [aK, aP, cJ]
    exact ⟨_, by rw [hlen], by rw [hlen]; omega, addr b (Nat.le_refl _)⟩
  split at h
  ·obtain ⟨a, b, h1, h2, rfl, rfl, WG, rfl⟩ := h
   simp only [aK, aP, cJ] at hx
   subst hx
   have ahk : mx = none := by simpa using WG
   subst ahk
   exact ⟨_, j7 hE ED SN PE h1 h2 (m := 0) (by simp [sW]) (by simp) (Nat.le_refl _) (Nat.le_refl _) (Nat.le_refl _), by simp [aK, aP, cJ]⟩
  ·obtain ⟨a, b, h1, h2, gE, V1, hn, h⟩ := h
   simp only [aK, aP, cJ] at hx
   obtain ⟨A, cap, rfl, g1, g2, g3⟩ := hx
   exact sub _ A cap a b g1 g2 g3 hn h1 h2 gE V1 h
  ·obtain ⟨a, b, h1, h2, gE, V1, hn, h⟩ := h
   simp only [aK, aP, cJ] at hx
   obtain ⟨A, rfl, g2, g3⟩ := hx
   exact sub _ A _ a b (Nat.le_refl _) g2 g3 hn h1 h2 gE V1 h
  ·rename_i id ver off len
   obtain ⟨r, hr, jJ, mN, a, b, h1, h2, gE, V1, WG, rfl⟩ := h
   have ahk : mx = none := by simpa using WG
   subst ahk
   simp only [aK, aP] at hx ⊢
   obtain ⟨WD, hx⟩ := hx
   obtain ⟨hle, hx⟩ := hx r hr jJ
   obtain ⟨⟨xs, gO, _, _⟩, _⟩ := hI.row id r hr
   have ae9 : ∀ A m cap, c.β id = .slice A m cap → r.els.length ≤ cap := by
    intro A m cap hβ
    rw [hβ] at gO
    rcases gO.2 with ⟨h', hz⟩ | ⟨g, jR, cur, h', _, _, PF, _⟩
    ·simp at h'; omega
    ·simp at h'; omega
   rcases hx with ⟨rfl, A, m, cap, hβ, rfl⟩ | ⟨kH, g, m, cap, A, hβ, hoc, rfl, ha⟩
   ·have ach := ae9 _ _ _ hβ
    refine ⟨_, j7 hE ED SN PE h1 h2 (m := cap) (by simp [sW]) (by simp) gE (by omega) (Nat.le_refl _), WD, fun r' jP _ => ?_⟩
    rw [hr] at jP; cases jP
    refine ⟨by omega, ?_⟩
    rcases Nat.eq_zero_or_pos a with rfl | WH
    ·left
     refine ⟨rfl, A, m, cap, hβ, ?_⟩
     congr 1
     cases A <;> simp [Addr.add]
    ·right
     obtain ⟨g, jR, pA⟩ := o9 hI hr (by omega)
     rw [hβ] at pA
     simp only [Value.slice.injEq] at pA
     obtain ⟨rfl, rfl, rfl⟩ := pA
     refine ⟨by omega, g, _, _, if cap = a then ⟨g, 0, none⟩ else ⟨g, 0 + a * n, none⟩, hβ, by omega, ?_, ?_⟩
     ·simp only [Nat.zero_add]
      congr 1
      split <;> simp [gV]
     ·rcases Nat.lt_or_ge a b with eZ | hge
      ·right; rw [if_neg (by omega)]; simp [mN]
      ·left; omega
   ·have ach := ae9 _ _ _ hβ
    refine ⟨_, j7 hE ED SN PE h1 h2 (m := cap - off) (by simp [sW]) (by simp) gE (by omega) (Nat.le_refl _), WD, fun r' jP _ => ?_⟩
    rw [hr] at jP; cases jP
    refine ⟨by omega, .inr ⟨by omega, g, m, cap, if cap - off = a then A else A.add (a * n), hβ, by omega, ?_, ?_⟩⟩
    ·rw [show cap - (off + a) = cap - off - a by omega]
     congr 1
     split <;> simp
    ·rcases Nat.lt_or_ge a b with eZ | hge
     ·right
      rcases ha with ha | rfl
      ·omega
      ·rw [if_neg (by omega)]; simp [gV, mN, Nat.add_mul]
     ·left; omega
  ·exact False.elim h
 ·exact False.elim h
end
theorem EE {α : Type} (l : List α) (i : Nat) (v : α) (rest : List α) (h : i + rest.length + 1 ≤ l.length) :
  ((l.set i v).take (i + 1) ++ rest ++ (l.set i v).drop (i + 1 + rest.length)) = l.take i ++ (v :: rest) ++ l.drop (i + (rest.length + 1)) := by
 have h1 : (l.set i v).take (i + 1) = l.take i ++ [v] := by
  rw [List.take_succ_eq_append_getElem (by simp; omega)]
  simp [List.take_set, List.set_eq_of_length_le (show (l.take i).length ≤ i by simp; omega)]
 have h2 : (l.set i v).drop (i + 1 + rest.length) = l.drop (i + 1 + rest.length) := by
  rw [List.drop_set, if_pos (by omega)]
 rw [h1, h2, show i + (rest.length + 1) = i + 1 + rest.length by omega]
 simp
theorem nN (off : Nat) : ∀ (L : List Value) (k : Nat) (arr : Array Value), off + k + L.length ≤ arr.size →
  ((L.zipIdx k).foldl (fun cs (x : Value × Nat) => cs.setIfInBounds (off + x.2) x.1) arr).toList = arr.toList.take (off + k) ++ L ++ arr.toList.drop (off + k + L.length)
 | [], k, arr, _ => by simp
 | v :: L, k, arr, h => by
  simp only [List.zipIdx_cons, List.foldl_cons]
  rw [nN off L (k + 1) (arr.setIfInBounds (off + k) v) (by simp at h ⊢; omega)]
  have := EE arr.toList (off + k) v L (by simp at h ⊢; omega)
  rw [Array.toList_setIfInBounds, show off + (k + 1) = off + k + 1 by omega]
  simpa [List.length_cons] using this
section
variable {E : Env} {c : Cx} {w0 : World} {S0 : c9}
theorem EF {p : PV} {v : Value} (h : aK c p v) (hp : ∀ l, p ≠ .ag l) (hu : ∀ l, p ≠ .eP l) (hn : p ≠ .undef) (ho : ∀ a b d e, p ≠ .own a b d e) (ht : ∀ a b d e, p ≠ .ptr a b d e) : v.cells = #[v] := by
 cases p with
 | ag l => exact absurd rfl (hp l)
 | eP l => exact absurd rfl (hu l)
 | undef => exact absurd rfl hn
 | own a b d e => exact absurd rfl (ho a b d e)
 | ptr a b d e => exact absurd rfl (ht a b d e)
 | bool b => rw [cW] at h; subst h; rfl
 | int k n => rw [b5] at h; subst h; rfl
 | str s => simp only [aK, aP, cJ] at h; subst h; rfl
 | jI => simp only [aK, aP, cJ] at h; subst h; rfl
 | nil => simp only [aK, aP, cJ] at h; subst h; rfl
 | sl l => simp only [aK, aP, cJ] at h; obtain ⟨a, cap, rfl, _⟩ := h; rfl
 | iZ l => simp only [aK, aP, cJ] at h; obtain ⟨a, rfl, _⟩ := h; rfl
 | rd l => simp only [aK, aP, cJ] at h; obtain ⟨a, o, rfl, _⟩ := h; rfl
 | fn g l => simp only [aK, aP, cJ] at h; obtain ⟨a, rfl, _⟩ := h; rfl
theorem LV {p : PV} {v : Value} {l : List PV} (h : aK c p v) (hc : dZ p = some l) : a7 (aP c) l v.cells.toList := by
 have one : ∀ q : PV, (aK c q v → aP c q v) → v.cells = #[v] → p = q → l = [q] → a7 (aP c) l v.cells.toList := by
  rintro q hq hv rfl rfl
  rw [hv]
  exact ⟨hq h, trivial⟩
 cases p with
 | ag l' =>
  simp only [dZ, Option.some.injEq] at hc
  subst hc
  obtain ⟨vs, rfl, HC⟩ := h
  simpa [Value.cells] using HC
 | eP _ => simp [dZ] at hc
 | undef => simp [dZ] at hc
 | own _ _ _ _ => simp [dZ] at hc
 | ptr _ _ _ _ => simp [dZ] at hc
 | _ =>
  simp only [dZ, Option.some.injEq] at hc
  refine one _ (fun hh => by simpa only [aK] using hh) (EF h ?_ ?_ ?_ ?_ ?_) rfl hc.symm <;> simp
theorem yG {fs : List (Nat × Nat × Bool)} : ∀ {ps : List (Nat × PV)} {vs : List (Nat × Value)} {z l : List PV} {cells : Array Value},
  a7 (fun (x : Nat × PV) (y : Nat × Value) => x.1 = y.1 ∧ aK c x.2 y.2) ps vs → a7 (aP c) z cells.toList → rH fs ps z = some l →
  ∃ bZ, Instr.fill (fun i => (fs.toArray.map fun x => (x.1, x.2.1))[i]?) cells vs = some bZ ∧ a7 (aP c) l bZ.toList
 | [], [], z, l, cells, _, hz, h => by
  simp only [rH, Option.some.injEq] at h
  subst h
  exact ⟨cells, by simp [Instr.fill], hz⟩
 | [], _ :: _, _, _, _, h, _, _ => h.elim
 | _ :: _, [], _, _, _, h, _, _ => h.elim
 | (i, p) :: ps, (j, v) :: vs, z, l, cells, h, hz, hf => by
  obtain ⟨⟨hij, hr⟩, ams⟩ := h
  simp only at hij hr
  subst hij
  simp only [rH] at hf
  split at hf
  ·rename_i o n b l' hfs hcp
   split at hf
   ·rename_i CF
    obtain ⟨hl, hon⟩ := CF
    have hc := LV hr hcp
    have mN : v.cells.size = n := by rw [← hl, hc.length]; simp
    have GY : z.length = cells.size := by rw [hz.length]; simp
    have CG := nN o v.cells.toList 0 cells (by simp; omega)
    have hz' : a7 (aP c) (z.take o ++ l' ++ z.drop (o + n)) ((v.cells.toList.zipIdx 0).foldl (fun cs (x : Value × Nat) => cs.setIfInBounds (o + x.2) x.1) cells).toList := by
     rw [CG]
     have : v.cells.toList.length = n := by simp [mN]
     rw [this]
     simpa using ((hz.take o).append hc).append (hz.drop (o + n))
    obtain ⟨bZ, h1, h2⟩ := yG (fs := fs) ams hz' hf
    refine ⟨bZ, ?_, h2⟩
    have PG : (fs.toArray.map fun x => (x.1, x.2.1))[i]? = some (o, n) := by simp [hfs]
    simp only [Instr.fill, PG]
    rw [if_neg (by simp [mN]; omega)]
    rw [← h1]
    congr 1
    have hz3 : v.cells.toList.zipIdx = v.cells.zipIdx.toList := by simp
    rw [hz3, Array.foldl_toList]
   ·cases hf
  ·cases hf
end
section
variable {E : Env} {c : Cx} {w0 : World} {S0 : c9}
theorem run_places {fields : Array Field} {fs : List (Nat × Nat × Bool)} (h : a7 (lU E.P) fields.toList fs) (w : World) :
  (fields.mapM (fun f => do pure (f.offset, ← Go.sizeOf f.type)) : Sem (Array (Nat × Nat))).run E.P w = .ok (fs.toArray.map fun x => (x.1, x.2.1)) w := by
 have key : ∀ (l : List Field) (fs : List (Nat × Nat × Bool)), a7 (lU E.P) l fs →
   (l.mapM (fun f => Functor.map (Prod.mk f.offset) (Go.sizeOf f.type)) : Sem (List (Nat × Nat))).run E.P w = .ok (fs.map fun x => (x.1, x.2.1)) w := by
  intro l
  induction l with
  | nil =>
   intro fs h
   cases fs with
   | nil => simp
   | cons _ _ => exact h.elim
  | cons f l ih =>
   intro fs h
   cases fs with
   | nil => exact h.elim
   | cons x fs =>
    obtain ⟨i, h1, h2⟩ := h.1.size
    simp [List.mapM_cons, cP h1, h2, ih fs h.2, h.1.off]
 have h2 := key fields.toList fs h
 rw [Array.mapM_eq_mapM_toList]
 simp [h2]
theorem CI {p p' : Nat → Option (Nat × Nat)} (h : ∀ i x, p i = some x → p' i = some x) : ∀ (l : List (Nat × Value)) (cells r : Array Value), Instr.fill p cells l = some r → Instr.fill p' cells l = some r
 | [], cells, r, h1 => h1
 | (i, v) :: l, cells, r, h1 => by
  unfold Instr.fill at h1 ⊢
  cases hp : p i with
  | none => rw [hp] at h1; cases h1
  | some x =>
   obtain ⟨off, size⟩ := x
   rw [hp] at h1
   rw [h i _ hp]
   simp only at h1 ⊢
   split at h1
   ·cases h1
   ·rename_i hc
    rw [if_neg hc]
    exact CI h l _ r h1
theorem LW {t : TypeId} {parts : Array (Nat × Operand)} {ρ : Operand → PV} {vρ : Operand → Value} {v : PV} (hρ : ∀ x, aK c (ρ x) (vρ x))
  (h : o7 (E.ty t) (parts.toList.map fun x => (x.1, ρ x.2)) v) :
  ∃ v', (Instr.build t (parts.map fun (i, x) => (i, vρ x))).run E.P c.w = .ok v' c.w ∧ aK c v v' := by
 unfold o7 at h
 split at h
 ·rename_i fs z hE
  obtain ⟨l, hl, rfl⟩ := h
  have ht := E.ok t
  rw [hE] at ht
  obtain ⟨⟨fields, hu, ha⟩, hz⟩ := ht
  obtain ⟨i, zv, hi, hzv, _, LX, _⟩ := hz.ok
  have rA : a7 (aP c) z zv.cells.toList := by
   rw [← LX]
   refine a7.cV (by simp) fun k a b CB hb => ?_
   simp at CB
   obtain ⟨u, SM, rfl⟩ := CB
   have : zv.cells.toList[k]? = some u := by simpa using SM
   rw [this] at hb; cases hb
   exact jQ _
  obtain ⟨bZ, h1, h2⟩ := yG (c := c) (fs := fs) (vs := (parts.map fun (i, x) => (i, vρ x)).toList) (cells := zv.cells) (by
   refine a7.cV (by simp) fun k a b CB hb => ?_
   simp at CB hb
   obtain ⟨i', x, hx, rfl⟩ := CB
   obtain ⟨j', y, hy, rfl⟩ := hb
   rw [hx] at hy; cases hy
   exact ⟨rfl, hρ _⟩) rA hl
  refine ⟨.agg bZ, ?_, bZ.toList, by simp, h2⟩
  have h1' : Instr.fill (fun x => (fs.toArray.map fun x => (x.1, x.2.1))[x]?) zv.cells (parts.map fun x => (x.1, vρ x.2)).toList = some bZ := h1
  simp only [Instr.build, zeroValue, typeInfo, program, Sem.run_bind, Sem.run, hi, hzv, Sem.run_pure, Result.andThen_ok, run_underlying hu, run_places ha, h1']
 ·rename_i e k n z hE
  obtain ⟨l, hl, rfl⟩ := h
  have ht := E.ok t
  rw [hE] at ht
  obtain ⟨hu, hz, j, hj, hjs⟩ := ht
  obtain ⟨i, zv, hi, hzv, _, LX, _⟩ := hz.ok
  have rA : a7 (aP c) z zv.cells.toList := by
   rw [← LX]
   refine a7.cV (by simp) fun k a b CB hb => ?_
   simp at CB
   obtain ⟨u, SM, rfl⟩ := CB
   have : zv.cells.toList[k]? = some u := by simpa using SM
   rw [this] at hb; cases hb
   exact jQ _
  obtain ⟨bZ, h1, h2⟩ := yG (c := c) (fs := LJ k n) (vs := (parts.map fun (i, x) => (i, vρ x)).toList) (cells := zv.cells) (by
   refine a7.cV (by simp) fun k a b CB hb => ?_
   simp at CB hb
   obtain ⟨i', x, hx, rfl⟩ := CB
   obtain ⟨j', y, hy, rfl⟩ := hb
   rw [hx] at hy; cases hy
   exact ⟨rfl, hρ _⟩) rA hl
  refine ⟨.agg bZ, ?_, bZ.toList, by simp, h2⟩
  have h1' : Instr.fill (fun i => some (i * n, n)) zv.cells (parts.map fun x => (x.1, vρ x.2)).toList = some bZ := by
   refine CI (fun i x hx => ?_) _ _ _ h1
   simp only [LJ, List.getElem?_toArray, List.map_toArray, List.map_map, List.getElem?_map] at hx
   rw [Option.map_eq_some_iff] at hx
   obtain ⟨a, ha, rfl⟩ := hx
   rw [List.getElem?_range] at ha
   ·cases ha; rfl
   ·have := (List.getElem?_eq_some_iff.1 ha).1
    simpa using this
  simp only [Instr.build, zeroValue, typeInfo, program, Sem.run_bind, Sem.run, hi, hzv, Sem.run_pure, Result.andThen_ok, run_underlying hu, cP hj, hjs, h1']
 ·exact False.elim h
theorem ahl {o : Oper} {a : Act} {f : Nat → PV} (hI : Inv w0 S0 c) (hf : ∀ s, aK c (f s) (a.tmps.getD s undef)) {v : PV} (h : yv E o.op (aR f) c.rows v) :
  ∃ v', (execOp a.eval o).run E.P c.w = .ok (.value v') c.w ∧ aK c v v' := by
 have hρ := kP hf
 have fin : ∀ {s : Sem Value}, (∃ v', s.run E.P c.w = .ok v' c.w ∧ aK c v v') → ∃ v', (do pure (Next.value (← s)) : Sem Next).run E.P c.w = .ok (.value v') c.w ∧ aK c v v' := by
  rintro s ⟨v', h1, h2⟩
  exact ⟨v', by simp [h1], h2⟩
 obtain ⟨dst, op, type, pos, after, guard⟩ := o
 simp only at h
 unfold yv at h
 split at h
 ·subst h; exact ⟨_, by simp [execOp], hρ _⟩
 ·subst h; exact ⟨_, by simp [execOp], hρ _⟩
 ·rename_i x a' b'
  obtain ⟨t, ht, rfl⟩ := h
  have := hρ x
  rw [ht, cW] at this
  refine ⟨if t = true then a.eval a' else a.eval b', by simp [execOp, this, asBool], ?_⟩
  split
  ·exact hρ _
  ·exact hρ _
 ·exact fin (WA (hρ _) (hρ _) h)
 ·rename_i op _ x
  unfold yun at h
  split at h
  ·rename_i b heq
   subst h
   have := hρ x
   rw [heq, cW] at this
   exact ⟨.bool (!b), by simp [execOp, this, Op.unary], cW.2 rfl⟩
  ·rename_i k n heq
   subst h
   have := hρ x
   rw [heq, b5] at this
   exact ⟨.int k (k.wrap (0 - n)), by simp [execOp, this, Op.unary, Op.intArith], b5.2 rfl⟩
  ·exact False.elim h
 ·rename_i s d x
  unfold rI at h
  split at h
  ·rename_i ks kd k n h1 h2 h3
   subst h
   have := hρ x
   rw [h3, b5] at this
   have hs := E.ok s
   have hd := E.ok d
   rw [h1] at hs
   rw [h2] at hd
   exact ⟨.int kd (kd.wrap n), by simp [execOp, this, convert, run_underlying hs.1, run_underlying hd.1, Conv.intToInt], b5.2 rfl⟩
  ·exact False.elim h
 ·rename_i x i
  unfold LI at h
  split at h
  ·rename_i l heq
   have := hρ x
   rw [heq] at this
   simp only [aK, aP, cJ] at this
   obtain ⟨vs, HC, hl⟩ := this
   obtain ⟨u, hu, hr⟩ := (cE.1 hl).get h
   exact ⟨u, by simp [execOp, HC, Instr.extract, hu], aK.i0 hr⟩
  ·exact False.elim h
 ·exact fin (CD hI (hρ _) h)
 ·exact fin (LP (hρ _) h)
 ·exact fin (yE (hρ _) h)
 ·exact fin (yF hI (hρ _) (hρ _) h)
 ·rename_i t x lo hi mx
  have ho : ∀ y : Option Operand, LR c (y.map (aR f)) (y.map a.eval) := fun y => by
   cases y with
   | none => exact ⟨by simp, by simp⟩
   | some y => exact ⟨fun q hq => by simp at hq; subst hq; exact ⟨_, rfl, hρ y⟩, by simp⟩
  exact fin (LU hI (hρ _) (ho _) (ho _) (ho _) h)
 ·exact fin (LW hρ h)
 ·rename_i t x ix
  unfold rW at h
  split at h
  ·rename_i s k kk h1 h2 h3
   obtain ⟨h0, b, hb, rfl⟩ := h
   have g2 := hρ x
   have g3 := hρ ix
   rw [h2] at g2
   rw [h3, b5] at g3
   simp only [aK, aP, cJ] at g2
   have ht := E.ok t
   rw [h1] at ht
   refine ⟨.int .u8 b.toNat, by simp [execOp, g2, g3, Instr.index, asIntOf, run_underlying ht.1, h0, hb], b5.2 rfl⟩
  ·exact False.elim h
 ·rename_i g bR
  obtain ⟨hp, rfl⟩ := h
  refine ⟨.func (.func g) #[] (bR.map a.eval), by simp [execOp, Instr.makeFunc], ?_⟩
  simp only [aK, aP, cJ]
  refine ⟨(bR.map a.eval).toList, by rw [Array.toArray_toList], cE.2 (a7.cV (by simp) fun k p u uL hu => ?_)⟩
  simp at uL hu
  obtain ⟨x, hx, rfl⟩ := uL
  obtain ⟨y, hy, rfl⟩ := hu
  rw [hx] at hy; cases hy
  have h1 : eY (aR f x) = true := List.all_eq_true.1 hp _ (by simp; exact ⟨x, Array.mem_of_getElem? hx, rfl⟩)
  exact aK.rep (hρ x) h1
 ·rename_i x t
  unfold vP at h
  split at h
  ·rename_i e n b z hE
   obtain ⟨hu, _⟩ := eI hE
   obtain ⟨n', hn, rfl⟩ := h
   have hx := hρ x
   have key : ∀ A cap, a.eval x = .slice A n' cap → (execOp a.eval { dst := dst, op := .call { callee := .builtin .len, args := ⟨[x]⟩, argTypes := ⟨[t]⟩ }, type := type, pos := pos, after := after, guard := guard }).run E.P c.w = .ok (.value (.int .i64 n')) c.w := by
    intro A cap hA
    simp [execOp, resolve, invoke, builtin, Builtin.len_, hA, run_underlying hu, goInt]
   refine ⟨.int .i64 n', ?_, b5.2 rfl⟩
   unfold SL at hn
   split at hn
   ·rename_i heq; rw [heq] at hx; simp only [aK, aP, cJ] at hx; exact key none 0 (by rw [hx, hn])
   ·rename_i heq; rw [heq] at hx; simp only [aK, aP, cJ] at hx; obtain ⟨A, cap, hA, _⟩ := hx; exact key A cap (by rw [hA, hn])
   ·rename_i heq; rw [heq] at hx; simp only [aK, aP, cJ] at hx; obtain ⟨A, hA, _⟩ := hx; exact key A _ (by rw [hA, hn])
   ·rename_i heq
    rw [heq] at hx
    simp only [aK, aP] at hx
    obtain ⟨⟨r, hr, jJ⟩, rfl⟩ := hn
    rcases (hx.2 r hr jJ).2 with ⟨_, A, m, cap, _, hA⟩ | ⟨_, g, m, cap, A, _, _, hA, _⟩
    ·exact key A cap hA
    ·exact key (some A) _ hA
   ·exact False.elim hn
  ·exact False.elim h
 ·rename_i x y ts
  unfold LK at h
  split at h
  ·rename_i k1 a1 k2 a2 h1 h2
   subst h
   have g1 := hρ x
   have g2 := hρ y
   rw [h1, b5] at g1
   rw [h2, b5] at g2
   refine ⟨.int k1 (if a2 > a1 then a2 else a1), by simp [execOp, resolve, invoke, builtin, Builtin.max_, Builtin.max2, g1, g2], b5.2 rfl⟩
  ·exact False.elim h
 ·rename_i x y ts
  unfold LM at h
  split at h
  ·rename_i k1 a1 k2 a2 h1 h2
   subst h
   have g1 := hρ x
   have g2 := hρ y
   rw [h1, b5] at g1
   rw [h2, b5] at g2
   refine ⟨.int k1 (if a2 < a1 then a2 else a1), by simp [execOp, resolve, invoke, builtin, Builtin.min_, Builtin.min2, g1, g2], b5.2 rfl⟩
  ·exact False.elim h
 ·rename_i x
  unfold BF at h
  have hx := hρ x
  split at h
  ·rename_i l heq
   rw [heq] at hx
   subst h
   have CJ := hx
   simp only [aK, aP, cJ] at hx
   obtain ⟨b, o, hv, _⟩ := hx
   exact ⟨a.eval x, by simp [execOp, hv], CJ⟩
  ·rename_i id ver i j heq
   rw [heq] at hx
   obtain ⟨⟨r, hr, jJ⟩, rfl⟩ := h
   have CJ := hx
   simp only [aK, aP] at hx
   obtain ⟨g, n, cap, _, hv⟩ := hx.2 r hr jJ
   exact ⟨a.eval x, by simp [execOp, hv], CJ⟩
  ·exact False.elim h
 ·exact False.elim h
end
def dE {α : Type} (f : Nat → α) (i : Nat) (x : α) : Nat → α := fun j => if j = i then x else f j
theorem fT {α : Type} (f : Nat → α) (i : Nat) (x : α) : dE f i x i = x := by simp [dE]
theorem jS {α : Type} (f : Nat → α) {i j : Nat} (x : α) (h : j ≠ i) : dE f i x j = f j := by simp [dE, h]
def gW (rows : Rows) : PV → Prop
 | .own id ver _ _ => ∃ r, rows id = some r ∧ r.ver = ver
 | .ptr id ver _ _ => ∃ r, rows id = some r ∧ r.ver = ver
 | .ag _ => False
 | .eP _ => False
 | .undef => False
 | _ => True
section
variable {E : Env} {c : Cx} {w0 : World} {S0 : c9}
theorem aP.one {p : PV} {v : Value} (h : aP c p v) (ho : gW c.rows p) : v.oneCell' = true := by
 cases p with
 | own id ver off len =>
  obtain ⟨r, hr, hv⟩ := ho
  simp only [aP] at h
  rcases (h.2 r hr hv).2 with ⟨_, A, n, cap, _, rfl⟩ | ⟨_, g, n, cap, A, _, _, rfl, _⟩ <;> rfl
 | ptr id ver i j =>
  obtain ⟨r, hr, hv⟩ := ho
  simp only [aP] at h
  obtain ⟨g, n, cap, _, rfl⟩ := h.2 r hr hv
  rfl
 | ag l => exact ho.elim
 | eP l => exact ho.elim
 | undef => exact ho.elim
 | bool b => simp only [aP, cJ] at h; subst h; rfl
 | int k n => simp only [aP, cJ] at h; subst h; rfl
 | str s => simp only [aP, cJ] at h; subst h; rfl
 | jI => simp only [aP, cJ] at h; subst h; rfl
 | nil => simp only [aP, cJ] at h; subst h; rfl
 | sl l => simp only [aP, cJ] at h; obtain ⟨a, cap, rfl, _⟩ := h; rfl
 | iZ l => simp only [aP, cJ] at h; obtain ⟨a, rfl, _⟩ := h; rfl
 | rd l => simp only [aP, cJ] at h; obtain ⟨a, o, rfl, _⟩ := h; rfl
 | fn g l => simp only [aP, cJ] at h; obtain ⟨a, rfl, _⟩ := h; rfl
def bO : PV → Option (List PV)
 | .ag l => some l
 | .eP _ => none
 | .undef => none
 | p => some [p]
theorem lA {p : PV} {v : Value} {l : List PV} (h : aK c p v) (hc : bO p = some l) (ho : ∀ q ∈ l, gW c.rows q) : a7 (aP c) l v.cells.toList ∧ ∀ u ∈ v.cells.toList, u.oneCell' = true := by
 have key : a7 (aP c) l v.cells.toList := by
  have one : ∀ q : PV, p = q → l = [q] → (aK c q v → aP c q v) → a7 (aP c) l v.cells.toList := by
   rintro q rfl rfl hq
   have h1 := hq h
   have h2 := h1.one (ho _ (by simp))
   have h3 : v.cells = #[v] := by cases v <;> simp_all [Value.cells, Value.oneCell']
   rw [h3]
   exact ⟨h1, trivial⟩
  cases p with
  | ag l' =>
   simp only [bO, Option.some.injEq] at hc
   subst hc
   obtain ⟨vs, rfl, HC⟩ := h
   simpa [Value.cells] using HC
  | eP _ => simp [bO] at hc
  | undef => simp [bO] at hc
  | _ =>
   simp only [bO, Option.some.injEq] at hc
   exact one _ rfl hc.symm (fun hh => by simpa only [aK] using hh)
 refine ⟨key, fun u hu => ?_⟩
 obtain ⟨k, hk⟩ := List.getElem?_of_mem hu
 have hl : k < l.length := by rw [key.length]; exact (List.getElem?_eq_some_iff.1 hk).1
 obtain ⟨u', h1, h2⟩ := key.get (List.getElem?_eq_getElem hl)
 rw [hk] at h1; cases h1
 exact h2.one (ho _ (List.getElem_mem hl))
theorem Inv.step {ob : Option Nat} {w' : World} (hI : Inv w0 S0 c) (hg : c.w.grownBy w' ob) (hob : ∀ g, ob = some g → w0.heap.size ≤ g ∧ ∀ o, ¬ c.S g o) :
  Below w0.heap.size w0 w' ∧ (∀ b o, c.S b o → w'.cell? ⟨b, o, none⟩ = c.w.cell? ⟨b, o, none⟩) := by
 refine ⟨hI.below.grown hg hI.below.size (fun k hk => (hob k hk).1), fun b o hS => World.cell?_of_block (hg.block b (hI.lt hS) ?_)⟩
 intro h
 exact (hob b h.symm).2 o hS
theorem Inv.set (hI : Inv w0 S0 c) {ob : Option Nat} {w' : World} {id : Nat} {r' : Row} {v' : Value} {xs : List Value} (hg : c.w.grownBy w' ob)
  (hob : ∀ g, ob = some g → w0.heap.size ≤ g ∧ (∀ o, ¬ c.S g o) ∧ ∀ iW r, c.rows iW = some r → iW ≠ id → (c.β iW).ownBlock ≠ some g)
  (gO : w'.ownsRow w0.heap.size r'.e r'.size v' r'.els.length xs) (fD : a7 (aP c) r'.els.flatten xs) (gX : ∀ x ∈ xs, x.oneCell' = true)
  (hlen : ∀ e ∈ r'.els, e.length = r'.size) (kH : 0 < r'.size) (nO : ∀ g, v'.ownBlock = some g → ob = some g ∨ c.w.heap.size ≤ g) (jJ : ¬ c.used r'.ver) :
  Inv w0 S0 { c with w := w', β := dE c.β id v', rows := dE c.rows id (some r'), used := fun v => v = r'.ver ∨ c.used v } ∧
  rT c { c with w := w', β := dE c.β id v', rows := dE c.rows id (some r'), used := fun v => v = r'.ver ∨ c.used v } := by
 obtain ⟨SO, CK⟩ := hI.step hg fun g h => ⟨(hob g h).1, (hob g h).2.1⟩
 have BE : rT c { c with w := w', β := dE c.β id v', rows := dE c.rows id (some r'), used := fun v => v = r'.ver ∨ c.used v } := by
  refine ⟨fun _ _ h => h, CK, fun _ h => .inr h, fun iW r hr => ?_⟩
  by_cases gL : iW = id
  ·subst gL
   simp only [fT, Option.some.injEq] at hr
   subst hr
   exact .inl jJ
  ·simp only [jS _ _ gL] at hr ⊢
   exact .inr ⟨r, hr, rfl, rfl, rfl, by first | rfl | trivial⟩
 refine ⟨⟨SO, hI.ext, fun b o h => (hI.new b o h).imp (fun h => h) fun h => ⟨h.1, Nat.lt_of_lt_of_le h.2 hg.size⟩, hI.lt0, fun iW r hr => ?_, fun iW r hr => ?_, fun i j r s g hr hs h1 h2 => ?_⟩, BE⟩
 ·by_cases gL : iW = id
  ·subst gL
   simp only [fT, Option.some.injEq] at hr
   subst hr
   exact .inl rfl
  ·simp only [jS _ _ gL] at hr
   exact .inr (hI.clock iW r hr)
 ·by_cases gL : iW = id
  ·subst gL
   simp only [fT, Option.some.injEq] at hr
   subst hr
   refine ⟨⟨xs, by simpa only [fT] using gO, fD.mono (aP.rU BE), gX⟩, hlen, fun g o GZ hS => ?_, kH⟩
   simp only [fT] at GZ
   rcases nO g GZ with h | h
   ·exact (hob g h).2.1 o hS
   ·have := hI.lt (show c.S g o from hS); omega
  ·simp only [jS _ _ gL] at hr
   obtain ⟨⟨ys, g1, g2, g3⟩, g4, g5, g6⟩ := hI.row iW r hr
   refine ⟨⟨ys, ?_, g2.mono (aP.rU BE), g3⟩, g4, fun g o GZ hS => ?_, g6⟩
   ·simp only [jS _ _ gL]
    refine g1.kept hg ?_
    cases hb : (c.β iW).ownBlock with
    | none => exact .inl rfl
    | some g =>
     right
     intro he
     exact (hob g he.symm).2.2 iW r hr gL hb
   ·simp only [jS _ _ gL] at GZ
    exact g5 g o GZ hS
 ·-- apart
  have other : ∀ (k : Nat) (t : Row) (g : Nat), k ≠ id → c.rows k = some t → (c.β k).ownBlock = some g → v'.ownBlock = some g → False := by
   intro k t g hk ht hb hv
   rcases nO g hv with h | h
   ·exact (hob g h).2.2 k t ht hk hb
   ·obtain ⟨⟨ys, g1, _, _⟩, _⟩ := hI.row k t ht
    have := (g1.lt g hb).2
    omega
  by_cases hi : i = id
  ·by_cases hj : j = id
   ·rw [hi, hj]
   ·subst hi
    simp only [fT, jS _ _ hj] at h1 h2 hs
    exact (other j s g hj hs h2 h1).elim
  ·by_cases hj : j = id
   ·subst hj
    simp only [fT, jS _ _ hi] at h1 h2 hr
    exact (other i r g hi hr h1 h2).elim
   ·simp only [jS _ _ hi, jS _ _ hj] at h1 h2 hr hs
    exact hI.apart i j r s g hr hs h1 h2
theorem Inv.dE (hI : Inv w0 S0 c) {w' : World} {id : Nat} {r r' : Row} {xs : List Value} (hr : c.rows id = some r) (hg : c.w.grownBy w' (c.β id).ownBlock)
  (gO : w'.ownsRow w0.heap.size r'.e r'.size (c.β id) r'.els.length xs) (fD : a7 (aP c) r'.els.flatten xs) (gX : ∀ x ∈ xs, x.oneCell' = true)
  (hlen : ∀ e ∈ r'.els, e.length = r'.size) (jJ : r'.ver = r.ver) (afc : r'.size = r.size) (yH : r'.els.length = r.els.length) :
  Inv w0 S0 { c with w := w', rows := Pm.dE c.rows id (some r') } ∧ rT c { c with w := w', rows := Pm.dE c.rows id (some r') } := by
 have hob : ∀ g, (c.β id).ownBlock = some g → w0.heap.size ≤ g ∧ ∀ o, ¬ c.S g o := by
  intro g h
  obtain ⟨⟨ys, g1, _, _⟩, _, g5, _⟩ := hI.row id r hr
  exact ⟨(g1.lt g h).1, fun o => g5 g o h⟩
 obtain ⟨SO, CK⟩ := hI.step hg hob
 have BE : rT c { c with w := w', rows := Pm.dE c.rows id (some r') } := by
  refine ⟨fun _ _ h => h, CK, fun _ h => h, fun iW s hs => ?_⟩
  by_cases gL : iW = id
  ·subst gL
   simp only [fT, Option.some.injEq] at hs
   subst hs
   exact .inr ⟨r, hr, jJ.symm, afc.symm, yH.symm, rfl⟩
  ·simp only [jS _ _ gL] at hs
   exact .inr ⟨s, hs, rfl, rfl, rfl, rfl⟩
 refine ⟨⟨SO, hI.ext, fun b o h => (hI.new b o h).imp (fun h => h) fun h => ⟨h.1, Nat.lt_of_lt_of_le h.2 hg.size⟩, hI.lt0, fun iW s hs => ?_, fun iW s hs => ?_, fun i j t s g ht hs h1 h2 => ?_⟩, BE⟩
 ·by_cases gL : iW = id
  ·subst gL
   simp only [fT, Option.some.injEq] at hs
   subst hs
   rw [jJ]; exact hI.clock iW r hr
  ·simp only [jS _ _ gL] at hs
   exact hI.clock iW s hs
 ·by_cases gL : iW = id
  ·subst gL
   simp only [fT, Option.some.injEq] at hs
   subst hs
   exact ⟨⟨xs, gO, fD.mono (aP.rU BE), gX⟩, hlen, (hI.row iW r hr).arY, by rw [afc]; exact (hI.row iW r hr).pos⟩
  ·simp only [jS _ _ gL] at hs
   obtain ⟨⟨ys, g1, g2, g3⟩, g4, g5, g6⟩ := hI.row iW s hs
   refine ⟨⟨ys, g1.kept hg ?_, g2.mono (aP.rU BE), g3⟩, g4, g5, g6⟩
   cases hb : (c.β iW).ownBlock with
   | none => exact .inl rfl
   | some g =>
    right
    intro he
    exact gL (hI.apart iW id s r g hs hr hb he.symm)
 ·have live : ∀ k t, Pm.dE c.rows id (some r') k = some t → ∃ t', c.rows k = some t' := by
   intro k t hk
   by_cases gL : k = id
   ·subst gL; exact ⟨r, hr⟩
   ·rw [jS _ _ gL] at hk; exact ⟨t, hk⟩
  obtain ⟨t', ht'⟩ := live i t ht
  obtain ⟨s', BG⟩ := live j s hs
  exact hI.apart i j t' s' g ht' BG h1 h2
end
end Pm
