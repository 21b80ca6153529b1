import Derived.Test.YtiobceocpabjdaaGreatNae
import Derived.Test.YtiobceocpabjdaaGreatNah
set_option linter.unusedSimpArgs false
set_option linter.unusedVariables false
namespace Go.Proofs.YtiobceocpabjdaaGreat
open Go Pm
variable {l:List (List PV)}{rows:Pm.Rows}{z:Bool}{e n k i:Nat}{α:Type}
structure Tg where
 k:Int
 a:Int
 b:Int
 c:Int
 d:Int
 deriving DecidableEq
variable {t:Tg}
instance:Inhabited Tg:=⟨⟨0,0,0,0,0⟩⟩
def tgc(t:Tg):List PV:=[aB t.k,aB t.a,aB t.b,aB t.c,aB t.d]
theorem F2(t:Tg):tgc t = [aB t.k,aB t.a,aB t.b,aB t.c,aB t.d]:=rfl
def yQ(s t:Tg):Bool:=
 if s.k≠t.k then decide (s.k<t.k)else if s.a≠t.a then decide (s.a<t.a)else if s.b≠t.b then decide (s.b<t.b)else if s.c≠t.c then decide (s.c<t.c)else if s.d≠t.d then decide (s.d<t.d)else false
theorem adS(s t:Tg):aC 38 [.ag (tgc s), .ag (tgc t)] (.bool (yQ s t)):=by
 simp only [F2,yQ]
 obtain⟨k,a,b,c,d⟩:=s
 obtain⟨k',a',b',c',d'⟩:=t
 simp only
 apply cG [(0, .ag [aB k,aB a,aB b,aB c,aB d]),(1, .ag [aB k',aB a',aB b',aB c',aB d'])] Tryz.func38
 apply aQ [2,3]
 apply cQ [2,3,11]
 refine W.cond ⟨_,rfl,fun h=>?_,fun h=>?_⟩
 ·have h:k≠k':=by simpa using h
  rw [if_pos h]
  exact eY [4]
 ·have h:k=k':=by simpa using h
  rw [if_neg (by simpa using h)]
  apply W.skip
  apply eE [3,18,19]
  refine W.bB (fun k σ=>∃(j:Nat),bF σ [(3, .ptr 3 1 0 0),(18, .ag [aB a,aB b,aB c,aB d]),(19,aB j)] fun rows clk=>j+k=4∧rows 3=some ⟨1,78,5,[[aB k',aB a',aB b',aB c',aB d']]⟩∧(0<j->a=a')∧(1<j->b=b')∧(2<j->c=c')∧(3<j->d=d')) 4 ?_ ?_
  ·exact⟨_, .refl,0,_,_,rfl,rfl,aG,aG,aG,aG,aG⟩
  rintro m _ ⟨j,rows,clk,rfl,hj,bK,h1,h2,h3,h4⟩
  have abq:j=0∨j=1∨j=2∨j=3∨j=4:=aA
  apply cN [3,18,19,20]
  refine W.cond ⟨_,rfl,fun h=>?_,fun h=>?_⟩
  ·have hj4:j<4:=by simp at h;omega
   apply (iE)
   have abq:j=0∨j=1∨j=2∨j=3:=aA
   rcases abq with rfl | rfl | rfl | rfl
   ·apply aQ [3,5,6,18,19]
    apply fJ bK [3,5,6,18,19,28]
    refine W.cond ⟨_,rfl,fun h=>?_,fun h=>?_⟩
    ·have h:a≠a':=by simpa using h
     rw [if_pos h]
     apply fJ bK [4]
     exact j8
    ·have h:a=a':=by simpa using h
     apply W.skip
     refine W.bY (fun K hK=>?_);simp (disch:=omega) [gw]
     exact hK _ ⟨m-1,_,aD _ [3,18,19],aA,1,_,_,rfl,aA,bK,fun _=>h,aG,aG,aG⟩
   ·have e1:=h1 aA
    apply aQ [3,5,6,18,19]
    apply fJ bK [3,5,6,18,19,28]
    refine W.cond ⟨_,rfl,fun h=>?_,fun h=>?_⟩
    ·have h:b≠b':=by simpa using h
     rw [if_neg (by simpa using e1),if_pos h]
     apply fJ bK [4]
     exact j8
    ·have h:b=b':=by simpa using h
     apply W.skip
     refine W.bY (fun K hK=>?_);simp (disch:=omega) [gw]
     exact hK _ ⟨m-1,_,aD _ [3,18,19],aA,2,_,_,rfl,aA,bK,fun _=>e1,fun _=>h,aG,aG⟩
   ·have e1:=h1 aA
    have e2:=h2 aA
    apply aQ [3,5,6,18,19]
    apply fJ bK [3,5,6,18,19,28]
    refine W.cond ⟨_,rfl,fun h=>?_,fun h=>?_⟩
    ·have h:c≠c':=by simpa using h
     rw [if_neg (by simpa using e1),if_neg (by simpa using e2),if_pos h]
     apply fJ bK [4]
     exact j8
    ·have h:c=c':=by simpa using h
     apply W.skip
     refine W.bY (fun K hK=>?_);simp (disch:=omega) [gw]
     exact hK _ ⟨m-1,_,aD _ [3,18,19],aA,3,_,_,rfl,aA,bK,fun _=>e1,fun _=>e2,fun _=>h,aG⟩
   ·have e1:=h1 aA
    have e2:=h2 aA
    have e3:=h3 aA
    apply aQ [3,5,6,18,19]
    apply fJ bK [3,5,6,18,19,28]
    refine W.cond ⟨_,rfl,fun h=>?_,fun h=>?_⟩
    ·have h:d≠d':=by simpa using h
     rw [if_neg (by simpa using e1),if_neg (by simpa using e2),if_neg (by simpa using e3),if_pos h]
     apply fJ bK [4]
     exact j8
    ·have h:d=d':=by simpa using h
     apply W.skip
     refine W.bY (fun K hK=>?_);simp (disch:=omega) [gw]
     exact hK _ ⟨m-1,_,aD _ [3,18,19],aA,4,_,_,rfl,aA,bK,fun _=>e1,fun _=>e2,fun _=>e3,fun _=>h⟩
  ·have hj4:j=4:=by simp at h;omega
   subst hj4
   rw [if_neg (by simpa using h1 aA),if_neg (by simpa using h2 aA),if_neg (by simpa using h3 aA),if_neg (by simpa using h4 aA)]
   exact uW [4]
theorem adT(s t:Tg):aC 39 [.ag (tgc s), .ag (tgc t)] (.bool (yQ s t)):=by
 simp only [F2,yQ]
 obtain⟨k,a,b,c,d⟩:=s
 obtain⟨k',a',b',c',d'⟩:=t
 simp only
 apply cG [(0, .ag [aB k,aB a,aB b,aB c,aB d]),(1, .ag [aB k',aB a',aB b',aB c',aB d'])] Tryz.func39
 apply aQ [2,3]
 apply cQ [2,3,10]
 refine W.cond ⟨_,rfl,fun h=>?_,fun h=>?_⟩
 ·have h:k≠k':=by simpa using h
  rw [if_pos h]
  exact eY [4]
 ·have h:k=k':=by simpa using h
  rw [if_neg (by simpa using h)]
  apply W.skip
  apply eE [2,3,5]
  refine W.bB (fun m σ=>∃(j:Nat),bF σ [(2, .ptr 2 0 0 0),(3, .ptr 3 1 0 0),(5,aB j)] fun rows clk=>j+m=4∧rows 2=some ⟨0,78,5,[[aB k,aB a,aB b,aB c,aB d]]⟩∧rows 3=some ⟨1,78,5,[[aB k',aB a',aB b',aB c',aB d']]⟩∧(0<j->a=a')∧(1<j->b=b')∧(2<j->c=c')∧(3<j->d=d')) 4 ?_ ?_
  ·exact⟨_, .refl,0,_,_,rfl,rfl,aG,aG,aG,aG,aG,aG⟩
  rintro m _ ⟨j,rows,clk,rfl,hj,bS,bK,h1,h2,h3,h4⟩
  apply cQ [2,3,5,17]
  refine W.cond ⟨_,rfl,fun h=>?_,fun h=>?_⟩
  ·have hj4:j<4:=by simp at h;omega
   apply (iE)
   have abq:j=0∨j=1∨j=2∨j=3:=aA
   rcases abq with rfl | rfl | rfl | rfl
   ·apply W.sd
    apply HS bS bK [2,3,5,28]
    refine W.cond ⟨_,rfl,fun h=>?_,fun h=>?_⟩
    ·have h:a≠a':=by simpa using h
     rw [if_pos h]
     apply W.sd
     exact FL bS bK [4]
    ·have h:a=a':=by simpa using h
     apply W.skip
     refine W.bY (fun K hK=>?_);simp (disch:=omega) [gw]
     exact hK _ ⟨m-1,_,aD _ [2,3,5],aA,1,_,_,rfl,aA,bS,bK,fun _=>h,aG,aG,aG⟩
   ·have e1:=h1 aA
    apply W.sd
    apply HS bS bK [2,3,5,28]
    refine W.cond ⟨_,rfl,fun h=>?_,fun h=>?_⟩
    ·have h:b≠b':=by simpa using h
     rw [if_neg (by simpa using e1),if_pos h]
     apply W.sd
     exact FL bS bK [4]
    ·have h:b=b':=by simpa using h
     apply W.skip
     refine W.bY (fun K hK=>?_);simp (disch:=omega) [gw]
     exact hK _ ⟨m-1,_,aD _ [2,3,5],aA,2,_,_,rfl,aA,bS,bK,fun _=>e1,fun _=>h,aG,aG⟩
   ·have e1:=h1 aA
    have e2:=h2 aA
    apply W.sd
    apply HS bS bK [2,3,5,28]
    refine W.cond ⟨_,rfl,fun h=>?_,fun h=>?_⟩
    ·have h:c≠c':=by simpa using h
     rw [if_neg (by simpa using e1),if_neg (by simpa using e2),if_pos h]
     apply W.sd
     exact FL bS bK [4]
    ·have h:c=c':=by simpa using h
     apply W.skip
     refine W.bY (fun K hK=>?_);simp (disch:=omega) [gw]
     exact hK _ ⟨m-1,_,aD _ [2,3,5],aA,3,_,_,rfl,aA,bS,bK,fun _=>e1,fun _=>e2,fun _=>h,aG⟩
   ·have e1:=h1 aA
    have e2:=h2 aA
    have e3:=h3 aA
    apply W.sd
    apply HS bS bK [2,3,5,28]
    refine W.cond ⟨_,rfl,fun h=>?_,fun h=>?_⟩
    ·have h:d≠d':=by simpa using h
     rw [if_neg (by simpa using e1),if_neg (by simpa using e2),if_neg (by simpa using e3),if_pos h]
     apply W.sd
     exact FL bS bK [4]
    ·have h:d=d':=by simpa using h
     apply W.skip
     refine W.bY (fun K hK=>?_);simp (disch:=omega) [gw]
     exact hK _ ⟨m-1,_,aD _ [2,3,5],aA,4,_,_,rfl,aA,bS,bK,fun _=>e1,fun _=>e2,fun _=>e3,fun _=>h⟩
  ·have hj4:j=4:=by simp at h;omega
   subst hj4
   rw [if_neg (by simpa using h1 aA),if_neg (by simpa using h2 aA),if_neg (by simpa using h3 aA),if_neg (by simpa using h4 aA)]
   exact uW [4]
def sc(z:Bool)(l:List (List PV)):PV:=if z=true then .nil else .sl l
def szc(z:Bool)(l:List (List PV)):List (List PV):=if z=true then []else l
@[simp] theorem alW:sc false l = .sl l:=rfl
@[simp] theorem aI8:sc true l = .nil:=rfl
@[simp] theorem aG8:fz rows (sc z l) = .sl (szc z l):=by cases z<;>rfl
@[simp] theorem aG9:pz rows (sc z l) = .sl (szc z l):=by cases z<;>rfl
@[simp] theorem IJ:bE (sc z l)=true:=by cases z<;>rfl
@[simp] theorem aBj:a9 (sc z l) = []:=by cases z<;>rfl
@[simp] theorem aBk:eK (sc z l) = []:=by cases z<;>rfl
@[simp] theorem aBl:jT rows (sc z l)=True:=by cases z<;>simp [sc,jT]
@[simp] theorem avt:gB (sc z l)=some [sc z l]:=by cases z<;>rfl
@[simp] theorem avu:cR (sc z l)=some [sc z l]:=by cases z<;>rfl
structure CE where
 t:Tg
 z:Bool
 p:List Int
 w:Int
instance:Inhabited CE:=⟨⟨default,true,[],0⟩⟩
def i9(x:CE):List PV:=[aB x.t.k,aB x.t.a,aB x.t.b,aB x.t.c,aB x.t.d,sc x.z (emap ie x.p),aB x.w]
theorem iY(x:CE):i9 x = [aB x.t.k,aB x.t.a,aB x.t.b,aB x.t.c,aB x.t.d,sc x.z (emap ie x.p),aB x.w]:=rfl
@[simp] theorem aso{l:List CE}:bP 7 (emap i9 l)=True:=cS fun _=>rfl
theorem ahC(x:CE):(i9 x).all bE=true:=by simp only [iY,List.all_cons,IJ,List.all_nil];rfl
@[simp] theorem aoV{v:Nat}{l:List CE}:dG (some ⟨v,e,n,emap i9 l⟩)=True:=cM ahC
def CE.v(x:CE):List Int:=if x.z=true then []else x.p
def CE.nz(x:CE):CE:=⟨x.t,false,x.v,x.w⟩
structure RE where
 t:Tg
 z:Bool
 q:List (List PV)
 w:Int
 y:Bool
 s:List (List PV)
 a:Bool
instance:Inhabited RE:=⟨⟨default,true,[],0,true,[],false⟩⟩
def fW(x:RE):List PV:=[aB x.t.k,aB x.t.a,aB x.t.b,aB x.t.c,aB x.t.d,sc x.z x.q,aB x.w,sc x.y x.s, .bool x.a]
theorem fL(x:RE):fW x = [aB x.t.k,aB x.t.a,aB x.t.b,aB x.t.c,aB x.t.d,sc x.z x.q,aB x.w,sc x.y x.s, .bool x.a]:=rfl
@[simp] theorem asp{l:List RE}:bP 9 (emap fW l)=True:=cS fun _=>rfl
theorem BN(x:RE):(fW x).all bE=true:=by simp only [fL,List.all_cons,IJ,List.all_nil];rfl
@[simp] theorem aoW{v:Nat}{l:List RE}:dG (some ⟨v,e,n,emap fW l⟩)=True:=cM BN
def RE.nz(x:RE):RE:=⟨x.t,false,szc x.z x.q,x.w,false,szc x.y x.s,x.a⟩
section
variable {α:Type} [Inhabited α]
def zJ(tg:α->Tg)(t:Tg)(l:List α):Nat->Nat
 | 0=>0
 | k+1=>if yQ t (tg (nth l k))=true then zJ tg t l k else k+1
theorem s8{tg:α->Tg}{l:List α}:zJ tg t l (k+1)=if yQ t (tg (nth l k))=true then zJ tg t l k else k+1:=rfl
def bef(tg:α->Tg)(t:Tg)(l:List α):Nat->Bool
 | 0=>false
 | k+1=>yQ t (tg (nth l k))
theorem T7{tg:α->Tg}{l:List α}(h:bef tg t l k=false):zJ tg t l k=k:=by
 cases k with
 | zero=>rfl
 | succ k=>rw [s8,if_neg (by rw [show yQ t (tg (nth l k))=false from h];decide)]
theorem abr{tg:α->Tg}{t:Tg}{l:List α}:∀k,zJ tg t l k<=k
 | 0=>Nat.le_refl _
 | k+1=>by
  unfold zJ
  split
  ·exact Nat.le_succ_of_le (abr k)
  ·exact Nat.le_refl _
def BO(tg:α->Tg)(l:List α)(x:α):List α:=l.take (zJ tg (tg x) l l.length)++x::l.drop (zJ tg (tg x) l l.length)
def FN(tg:α->Tg)(l:List α):List α:=l.foldl (BO tg) []
theorem ahD{tg:α->Tg}{l:List α}{x:α}:(BO tg l x).length=l.length+1:=by
 have:=abr (tg:=tg) (t:=tg x) (l:=l) l.length
 simp [BO]
 omega
theorem T8{tg:α->Tg}{l:List α}(h:i<l.length):FN tg (l.take (i+1))=BO tg (FN tg (l.take i)) (nth l i):=by
 unfold FN
 rw [bZ h,List.take_succ_eq_append_getElem h,List.foldl_append]
 rfl
theorem PE{tg:α->Tg}{l:List α}:(FN tg l).length=l.length:=by
 suffices h:∀(l S:List α),(l.foldl (BO tg) S).length=S.length+l.length by simpa [FN]using h l []
 intro l
 induction l with
 | nil=>intro S;simp
 | cons x l ih=>intro S;rw [List.foldl_cons,ih,ahD];simp;omega
end
theorem asq{S:List α}{z y:α}(hk:k<=S.length):((S ++ [z]).take (k+1)++((S ++ [z]).drop k).take (S.length-k)).set k y=S.take k++y::S.drop k:=by
 obtain⟨A,B,rfl,rfl⟩:∃A B,S=A++B∧A.length=k:=⟨S.take k,S.drop k,(List.take_append_drop k S).symm,by simp;omega⟩
 have e1:(A++B ++ [z]).take (A.length+1)=A++(B ++ [z]).take 1:=by rw [List.append_assoc,List.take_length_add_append]
 have e2:(A++B ++ [z]).drop A.length=B ++ [z]:=by rw [List.append_assoc,List.drop_left]
 have e3:(A++B).length-A.length=B.length:=aG
 have e4:(B ++ [z]).take B.length=B:=aG
 rw [e1,e2,e3,e4,List.take_left,List.drop_left]
 cases B with
 | nil=>simp
 | cons b B=>simp
theorem aDM(x:CE):x.nz.t=x.t:=rfl
theorem ayz(x:RE):x.nz.t=x.t:=rfl
def tR(l:List CE):List CE:=FN CE.t (l.map CE.nz)
def FO(l:List RE):List RE:=FN RE.t (l.map RE.nz)
theorem IK{β:Type}[Inhabited α][Inhabited β]{f:α->β}{l:List α}(h:i<l.length):nth (l.map f) i=f (nth l i):=by rw [bZ (by simpa using h),bZ h];simp
theorem adU{l:List CE}(h:i<l.length):tR (l.take (i+1))=BO CE.t (tR (l.take i)) (nth l i).nz:=by
 unfold tR
 rw [List.map_take,List.map_take,T8 (by simpa using h),IK h]
theorem adV{l:List RE}(h:i<l.length):FO (l.take (i+1))=BO RE.t (FO (l.take i)) (nth l i).nz:=by
 unfold FO
 rw [List.map_take,List.map_take,T8 (by simpa using h),IK h]
theorem IL{l:List CE}:(tR l).length=l.length:=by simp [tR,PE]
theorem T9{l:List RE}:(FO l).length=l.length:=by simp [FO,PE]
@[simp] theorem alX{x:CE}:(i9 x).length=7:=rfl
theorem adW{L:List CE}{j:Nat}{y:CE}(h:j<L.length):iP (emap i9 L) j 0 (i9 y)=emap i9 (L.set j y):=by
 simp [iP,emap,List.map_set,h]
 rw [show(i9 L[j]).drop 7 = []from rfl,List.append_nil]
def zC:CE:=⟨⟨0,0,0,0,0⟩,false,[],0⟩
set_option maxHeartbeats 2000000 in
theorem DG{l:List CE}(hl:l.length<1048576)(hN:∀x∈l,aC 64 [.sl (szc x.z (emap ie x.p))] (.sl (emap ie x.v))) :
  aC 35 [aJ i9 l] (aJ i9 (tR l)):=by
 apply cG [(0,aJ i9 l)] Tryz.func35
 apply fK [0] [0,3]
 refine W.nil 3 3 82 7 aG aF fun K hK=>?_
 refine W.lw [0,3] hK ?_;clear hK K;simp
 apply eE [3,7,8,9]
 refine W.bB (fun k σ=>∃(i v3:Nat),bF σ [(3, .own 3 v3 0 i),(7,aJ i9 l),(8,aB l.length),(9,aB i)] fun rows clk=>i+k=l.length∧rows 3=some ⟨v3,82,7,emap i9 (tR (l.take i))⟩) l.length ?_ ?_
 ·exact⟨_, .refl,0,_,_,_,rfl,aA,by simp [tR,FN,emap]⟩
 rintro k _ ⟨i,v3,rows,clk,rfl,tM,bK⟩
 apply cN [3,7,8,9,10]
 refine W.cond ⟨_,rfl,fun h=>?_,fun h=>?_⟩
 ·have hi:i<l.length:=by simp at h;omega
  have AZ:(tR (l.take i)).length=i:=by rw [IL,List.length_take];omega
  have fA:=adU hi
  have hNi:=hN _ (bO hi)
  rw [BO,aDM,AZ]at fA
  generalize tR (l.take i)=S at *
  apply (iE)
  generalize hx:nth l i=x at *
  apply W.sr
  simp (disch:=omega) [gw,hi,iY,hx]
  apply cO [3,5,7,8,9]
  apply fJ bK [3,5,6,7,8,9]
  apply (nC)
  refine W.bB (fun k σ=>∃(j:Nat) (rows:Pm.Rows) (clk:Nat),σ=⟨fa [(3, .own 3 v3 0 i),(5, .ptr 5 clk 0 0),(6,aB j),(7,aJ i9 l),(8,aB l.length),(9,aB i)],rows,clk+1⟩∧j<=i∧zJ CE.t x.t S i=zJ CE.t x.t S j∧j=k∧rows 3=some ⟨v3,82,7,emap i9 S⟩∧rows 5=some ⟨clk,82,7,[i9 x]⟩) i ?_ ?_
  ·exact⟨_, .refl,i,_,_,rfl,Nat.le_refl _,rfl,rfl,by simp [bK],by simp [iY]⟩
  clear bK rows clk
  rintro m _ ⟨j,rows,clk,rfl,J7,hp,rfl,bK,dX⟩
  simp only [iY]at dX
  apply W.seq
  refine W.TD (fun σ=>∃(b:Bool),σ=⟨fa [(3, .own 3 v3 0 i),(5, .ptr 5 clk 0 0),(6,aB j),(7,aJ i9 l),(8,aB l.length),(9,aB i),(27, .bool b)],rows,clk+1⟩∧b=bef CE.t x.t S j) (fun K hK=>?_) ?_
  ·cases j with
   | zero =>
    apply (cV)
    exact hK _ _ (aD _ [3,5,6,7,8,9,27]) ⟨_,rfl,rfl⟩
   | succ j =>
    have hL:=adS x.t (nth S j).t
    simp only [F2]at hL
    have hjS:j<S.length:=aA
    have mX:(0:Int)<(j:Int)+1:=aA
    simp (disch:=omega) [gw,bK,dX,iY,hjS,mX]
    apply jW hL
    exact hK _ _ (aD _ [3,5,6,7,8,9,27]) ⟨_,rfl,rfl⟩
  rintro _ ⟨b,rfl,hb⟩
  refine W.cond ⟨_,rfl,fun h=>?_,fun h=>?_⟩
  ·subst h
   cases j with
   | zero=>simp [bef]at hb
   | succ j =>
    have hb:yQ x.t (nth S j).t=true:=hb.symm
    apply (uV)
    refine W.bY (fun K hK=>?_);simp (disch:=omega) [gw]
    exact hK _ ⟨j,_,aD _ [3,5,6,7,8,9],aA,j,_,_,rfl,aA,by rw [hp,s8,if_pos hb],rfl,bK,by simp only [iY];exact dX⟩
  ·subst h
   have hpj:zJ CE.t x.t S j=j:=T7 hb.symm
   rw [hp,hpj]at fA
   apply (gK)
   clear hp
   refine W.fI (fun σ=>∃(v:Nat) (rows:Pm.Rows) (fD:Nat),σ=⟨fa [(3, .own 3 v 0 (i+1)),(5, .ptr 5 clk 0 0),(6,aB j),(7,aJ i9 l),(8,aB l.length),(9,aB i)],rows,fD⟩∧rows 3=some ⟨v,82,7,emap i9 (S ++ [zC])⟩∧rows 5=some ⟨clk,82,7,[i9 x]⟩) (fun K hK=>?_) ?_
   ·apply zD bK dX AZ
    refine hK _ _ (aD _ [3,5,6,7,8,9]) ⟨_,_,_,rfl,?_,?_⟩
    ·simp [emap,iY,zC]
    ·simp [dX,iY]
   clear bK dX rows
   rintro _ ⟨v,rows,fD,rfl,bK,dX⟩
   refine W.TD (fun σ=>∃(rows:Pm.Rows),σ=⟨fa [(3, .own 3 v 0 (i+1)),(5, .ptr 5 clk 0 0),(6,aB j),(7,aJ i9 l),(8,aB l.length),(9,aB i)],rows,fD⟩∧rows 3=some ⟨v,82,7,emap i9 ((S ++ [zC]).take (j+1)++((S ++ [zC]).drop j).take (i-j))⟩∧rows 5=some ⟨clk,82,7,[i9 x]⟩) (fun K hK=>?_) ?_
   ·have J9:(emap i9 (S ++ [zC])).length=i+1:=by simp [emap,AZ]
    apply eV bK
    refine awS (els:=emap i9 (S ++ [zC])) (l:=emap i9 ((S ++ [zC]).drop j)) bK (by rw [J9];omega) ⟨_,bK,rfl,?_⟩ ?_ ?_
    ·simp only
     rw [List.take_of_length_le (by rw [List.length_drop,J9];exact Nat.le_refl _)]
     simp [emap]
    ·intro e he
     obtain⟨y,_,rfl⟩:=List.mem_map.1 he
     rfl
    have e1:min (emap i9 ((S ++ [zC]).drop j)).length (i-j)=i-j:=by simp [emap,AZ];omega
    have e2:(emap i9 (S ++ [zC])).take (j+1)++(emap i9 ((S ++ [zC]).drop j)).take (i-j)++(emap i9 (S ++ [zC])).drop (j+1+(i-j))=emap i9 ((S ++ [zC]).take (j+1)++((S ++ [zC]).drop j).take (i-j)):=by
     rw [show(emap i9 (S ++ [zC])).drop (j+1+(i-j)) = []from List.drop_eq_nil_of_le (by rw [J9];omega),List.append_nil]
     simp [emap]
    rw [e1,e2]
    apply (cV)
    refine aY (by refine⟨?_,?_⟩<;>kernel_rfl) ?_
    apply (cV)
    exact hK _ _ (aD _ [3,5,6,7,8,9]) ⟨_,rfl,aG,by simp [dX]⟩
   clear bK dX rows
   rintro _ ⟨rows,rfl,bK,dX⟩
   simp only [iY]at dX
   refine W.K1 fun K hK=>?_
   apply j7 bK dX hNi
   have c8:j<j+1+(i-j):=aA
   simp (disch:=omega) [gw,bK,dX,alX,c8]
   refine aY cT ?_
   apply (cV)
   have e3:=adW (L:=(S ++ [zC]).take (j+1)++((S ++ [zC]).drop j).take (i-j)) (j:=j) (y:=x.nz) (by simp [AZ];omega)
   rw [<-AZ,asq aA,<-fA]at e3
   simp only [iY,CE.nz,alW,AZ]at e3
   rw [e3]
   refine hK _ ?_;clear hK K
   refine W.bY (fun K hK=>?_);simp (disch:=omega) [gw]
   exact hK _ ⟨k-1,_,aD _ [3,7,8,9],aA,i+1,v,_,_,rfl,aA,aG⟩
 ·have hi:i=l.length:=by simp at h;omega
  subst hi
  rw [List.take_length]at bK
  apply (gK)
  refine W.freeze 3 (by simp [bK]) fun K hK=>?_
  simp [bK]
  refine hK _ ?_;clear hK K
  apply aQ [2]
  apply W.ret
  simp [go,List.take_of_length_le (Nat.le_of_eq (IL (l:=l)))]
@[simp] theorem aBm{x:RE}:(fW x).length=9:=rfl
end Go.Proofs.YtiobceocpabjdaaGreat
namespace Pm
open Go Go.RowKit
variable {E:Env}{ops:List Oper}{σ:PS}{P:Program}{g yM:FuncId}{args:List PV}{rows:Rows}{clk:Nat}{R:PV->Rows->Nat->Prop}{fn:Func}{code:Code}{r:PV}
def kpE(p:PV)(rows rows':Rows):Prop:=
 match p with
 | .ptr id _ _ _=>rows' id=rows id
 | .own id _ _ _=>rows' id=rows id
 | _=>True
def kpA(p:PV)(rows rows':Rows):Prop:=
 match p with
 | .ptr id _ _ _=>(rows' id).map Row.ver=(rows id).map Row.ver
 | _=>True
def kpO(op:Op)(ρ:Operand->PV)(rows rows':Rows):Prop:=
 match op with
 | .load _ p=>kpE (ρ p) rows rows'
 | .fieldAddr _ x _=>kpA (ρ x) rows rows'
 | .indexAddr _ x _=>kpE (ρ x) rows rows'
 | .nilCheck x=>kpA (ρ x) rows rows'
 | _=>True
def pTs(E:Env)(ops:List Oper)(kp:Rows->Rows->Prop):List Oper->(PS->Prop)->PS->Prop
 | [],K,σ=>K σ
 | o::os,K,σ=>aP E ops [o] (fun σ'=>kp σ.rows σ'.rows∧pTs E ops kp os K σ') σ
def IM(c:Nat):List Oper->List Nat->List Oper
 | o::os,k::ks=>if k=c then o::IM c os ks else IM c os ks
 | _,_=>[]
def kpL(ρ:Operand->PV)(rows rows':Rows):List Oper->Prop
 | []=>True
 | o::os=>kpO o.op ρ rows rows'∧kpL ρ rows rows' os
section
variable {E:Env} {n:Nat} {tl:Nat->Nat} {Q:PX->PS->Prop}
def aDR(E:Env)(ops:List Oper)(cls:List Nat)(K:PS->Prop)(σ:PS):Prop:=
 aP E ops (IM 0 ops cls) (fun σ1=>go (pTs E ops (fun r r'=>kpL (aR σ1.f) r r' (IM 0 ops cls)) (IM 1 ops cls) (fun σ2=>go (aP E ops (IM 2 ops cls) K σ2)) σ1)) σ
end
@[simp] theorem aBo{cls:List Nat}{K:PS->Prop}:go (aDR E ops cls K σ)=go (aP E ops (IM 0 ops cls) (fun σ1=>go (pTs E ops (fun r r'=>kpL (aR σ1.f) r r' (IM 0 ops cls)) (IM 1 ops cls) (fun σ2=>go (aP E ops (IM 2 ops cls) K σ2)) σ1)) σ):=rfl
@[simp] theorem asr{kp:Rows->Rows->Prop}{K:PS->Prop}:go (pTs E ops kp [] K σ)=K σ:=rfl
@[simp] theorem aoX{kp:Rows->Rows->Prop}{o:Oper}{os:List Oper}{K:PS->Prop}:go (pTs E ops kp (o::os) K σ)=go (aP E ops [o] (fun σ'=>aL (kp σ.rows σ'.rows) (pTs E ops kp os K σ')) σ):=rfl
attribute [simp] IM kpL kpO kpE kpA
def unP(ρ:Nat->Option Nat):PV->PV
 | .own id ver off len=>match ρ id with | some j => .own j ver off len | none => .undef
 | .ptr id ver i j=>match ρ id with | some k => .ptr k ver i j | none => .undef
 | .sL t id ver=>match ρ id with | some k => .sL t k ver | none => .undef
 | p=>p
def unV(ρ:Nat->Option Nat):PV->PV
 | .ag l => .ag (l.map (unP ρ))
 | .dK l => .dK (l.map (unP ρ))
 | .rC f fs bR => .rC f (fs.map (unP ρ)) (bR.map (unP ρ))
 | p=>unP ρ p
def EP(ρ:Nat->Option Nat)(r:Row):Row:={ r with els:=r.els.map fun e=>e.map (unP ρ) }
def ahE(ρ:Nat->Option Nat)(σ:Nat->Nat)(rows:Rows):Rows:=fun j=>(rows (σ j)).map (EP ρ)
def YR(ρ:Nat->Option Nat)(σ:Nat->Nat)(c:Cx):Cx:={ c with β:=fun j=>c.β (σ j),rows:=ahE ρ σ c.rows }
def ass(k:Nat)(rows:Rows):Rows:=fun j=>if k<=j then(rows (j-k)).map (p9 k)else none
section
variable {ρ:Nat->Option Nat} {σ:Nat->Nat} (h1:∀i j,ρ i=some j->σ j=i)
include h1
theorem aM.un{c:Cx}{p:PV}{v:Value}(h:aM c p v):aM (YR ρ σ c) (unP ρ p) v:=by
 cases p with
 | own id ver off len =>
  simp only [unP]
  cases hρ:ρ id with
  | none=>trivial
  | some j =>
   simp only [aM]at h |-
   refine⟨h.1,fun r hr hv=>?_⟩
   have jO:(c.rows (σ j)).map (EP ρ)=some r:=hr
   rw [h1 id j hρ]at jO
   obtain⟨r0,q1,rfl⟩:=Option.map_eq_some_iff.1 jO
   have:=h.2 r0 q1 hv
   show _<=(r0.els.map _).length∧_
   rw [List.length_map]
   have e:(YR ρ σ c).β j=c.β id:=by show c.β (σ j)=_;rw [h1 id j hρ]
   rw [e]
   exact this
 | ptr id ver a b =>
  simp only [unP]
  cases hρ:ρ id with
  | none=>trivial
  | some j =>
   simp only [aM]at h |-
   refine⟨h.1,fun r hr hv=>?_⟩
   have jO:(c.rows (σ j)).map (EP ρ)=some r:=hr
   rw [h1 id j hρ]at jO
   obtain⟨r0,q1,rfl⟩:=Option.map_eq_some_iff.1 jO
   have e:(YR ρ σ c).β j=c.β id:=by show c.β (σ j)=_;rw [h1 id j hρ]
   rw [e]
   exact h.2 r0 q1 hv
 | sL t id ver =>
  simp only [unP]
  cases hρ:ρ id with
  | none=>trivial
  | some j =>
   simp only [aM]at h |-
   refine⟨h.1,fun r hr hv=>?_⟩
   have jO:(c.rows (σ j)).map (EP ρ)=some r:=hr
   rw [h1 id j hρ]at jO
   obtain⟨r0,q1,rfl⟩:=Option.map_eq_some_iff.1 jO
   have e:(YR ρ σ c).β j=c.β id:=by show c.β (σ j)=_;rw [h1 id j hρ]
   rw [e]
   exact h.2 r0 q1 hv
 | undef=>trivial
 | _=>exact h
theorem KJ.un{c:Cx}{l:List PV}{vs:List Value}(h:bA (aM c) l vs):bA (aM (YR ρ σ c)) (l.map (unP ρ)) vs:=by
 refine bA.cI (by simp [h.length]) fun i a b ha hb=>?_
 simp at ha
 obtain⟨q,hq,rfl⟩:=ha
 obtain⟨b',jH,hr⟩:=h.get hq
 rw [hb]at jH;cases jH
 exact hr.un h1
theorem aK.un{c:Cx}{p:PV}{v:Value}(h:aK c p v):aK (YR ρ σ c) (unV ρ p) v:=by
 cases p with
 | ag l=>obtain⟨vs,q1,q2⟩:=h;exact⟨vs,q1,KJ.un h1 q2⟩
 | dK l=>obtain⟨vs,q1,q2⟩:=h;exact⟨vs,q1,KJ.un h1 q2⟩
 | rC f fs bR=>obtain⟨us,cs,q1,q2,q3⟩:=h;exact⟨us,cs,q1,KJ.un h1 q2,KJ.un h1 q3⟩
 | own id ver off len=>exact gM (aM.un h1 (p:=.own id ver off len) h)
 | ptr id ver i j=>exact gM (aM.un h1 (p:=.ptr id ver i j) h)
 | sL t id ver=>exact gM (aM.un h1 (p:=.sL t id ver) h)
 | undef=>trivial
 | _=>exact h
theorem Inv.un(h2:∀j,ρ (σ j)=some j){w0:World}{S0:eU}{c:Cx}(hI:Inv w0 S0 c):Inv w0 S0 (YR ρ σ c):=by
 have live:∀ {j:Nat} {r:Row},(YR ρ σ c).rows j=some r -> ∃r0,c.rows (σ j)=some r0∧r=EP ρ r0:=fun {j r} hr=>by
  obtain⟨r0,q1,q2⟩:=Option.map_eq_some_iff.1 (show (c.rows (σ j)).map (EP ρ)=some r from hr)
  exact⟨r0,q1,q2.symm⟩
 refine⟨hI.below,hI.ext,hI.new,hI.lt0,fun j r hr=>?_,fun j r hr=>?_,fun j j' r r' g hr jO hg hg'=>?_,hI.fin⟩
 ·obtain⟨r0,q1,rfl⟩:=live hr
  exact hI.clock _ r0 q1
 ·obtain⟨r0,q1,rfl⟩:=live hr
  obtain⟨⟨xs,g1,g2,g3⟩,g4,g5,g6⟩:=hI.row _ r0 q1
  refine⟨⟨xs,?_,?_,g3⟩,fun e he=>?_,g5,g6⟩
  ·show c.w.ownsRow _ _ _ _ (r0.els.map _).length xs
   rw [List.length_map];exact g1
  ·show bA _ (r0.els.map fun e=>e.map (unP ρ)).flatten xs
   rw [AO]
   exact KJ.un h1 g2
  ·obtain⟨e0,he0,rfl⟩:=List.mem_map.1 he
   rw [List.length_map]
   exact g4 e0 he0
 ·obtain⟨r0,q1,rfl⟩:=live hr
  obtain⟨r0',q1',rfl⟩:=live jO
  have:=hI.apart (σ j) (σ j') r0 r0' g q1 q1' hg hg'
  have e1:=h2 j
  rw [this,h2 j']at e1
  exact(Option.some.inj e1).symm
end
theorem yZ.up{ρ:Nat->Option Nat}{σ:Nat->Nat}(h1:∀i j,ρ i=some j->σ j=i)(h2:∀j,ρ (σ j)=some j)
  (h:yZ P g (args.map (shV lW)) (ass lW rows) clk R) (hold:∀j,σ j=j+lW ∨ ∀r0 fY fD,R r0 fY fD -> ∀r,fY (σ j)=some r->clk<=r.ver) :
  yZ P g args rows clk (fun r rows' fD=>∃r0 fY,R r0 fY fD∧r=unV ρ r0∧rows'=ahE ρ σ fY):=by
 refine⟨h.1,fun w0 S0 c vs G hI iQ gS dQ hG=>?_⟩
 subst iQ
 refine(h.2 w0 S0 (XB lW c) vs (fun x=>∃p,aK c p x.2∧x.1=shV lW p) (hI.sh lW) rfl gS ?_ ?_).mono ?_
 ·refine bA.cI (by simp [dQ.length]) fun i a b ha hb=>?_
  simp at ha
  obtain⟨q,hq,rfl⟩:=ha
  obtain⟨b',jH,hr⟩:=dQ.get hq
  rw [hb]at jH;cases jH
  exact hr.sh
 ·rintro⟨q,v⟩ ⟨p,hp,rfl⟩
  exact hp.sh
 rintro x w' ⟨v,c',r0,fD,rfl,rfl,pU,J6,lE,AR,XC⟩
 have back:∀ {p:PV} {v:Value},aM c p v->aM c' (vD lW p) v->aM (YR ρ σ c') p v:=by
  intro p v hp pT
  have key:∀(id ver:Nat) (r:Row),c.used ver->(YR ρ σ c').rows id=some r->r.ver=ver -> ∃r',c'.rows (id+lW)=some r'∧r=EP ρ r'∧σ id=id+lW:=by
   intro id ver r hu hr hv
   obtain⟨r',q1,q2⟩:=Option.map_eq_some_iff.1 (show (c'.rows (σ id)).map (EP ρ)=some r from hr)
   rcases hold id with h3 | h3
   ·exact⟨r',by rw [<-h3];exact q1,q2.symm,h3⟩
   ·have h4:=h3 r0 c'.rows fD lE r' q1
    have h5:=gS ver hu
    have h6:r'.ver=ver:=by rw [<-hv,<-q2];rfl
    omega
  cases p with
  | own id ver off len =>
   simp only [vD,aM]at pT |-
   refine⟨pT.1,fun r hr hv=>?_⟩
   obtain⟨r',q1,rfl,q3⟩:=key id ver r (show c.used ver from hp.1) hr hv
   have:=pT.2 r' q1 hv
   show _<=(r'.els.map _).length∧_
   rw [List.length_map]
   have e:(YR ρ σ c').β id=c'.β (id+lW):=by show c'.β (σ id)=_;rw [q3]
   rw [e];exact this
  | ptr id ver i j =>
   simp only [vD,aM]at pT |-
   refine⟨pT.1,fun r hr hv=>?_⟩
   obtain⟨r',q1,rfl,q3⟩:=key id ver r (show c.used ver from hp.1.1) hr hv
   have e:(YR ρ σ c').β id=c'.β (id+lW):=by show c'.β (σ id)=_;rw [q3]
   rw [e];exact pT.2 r' q1 hv
  | sL t id ver =>
   simp only [vD,aM]at pT |-
   refine⟨pT.1,fun r hr hv=>?_⟩
   obtain⟨r',q1,rfl,q3⟩:=key id ver r (show c.used ver from hp.1.1) hr hv
   have e:(YR ρ σ c').β id=c'.β (id+lW):=by show c'.β (σ id)=_;rw [q3]
   rw [e];exact pT.2 r' q1 hv
  | undef=>trivial
  | _=>exact pT
 have AS:∀ {l:List PV} {vs:List Value},bA (aM c) l vs->bA (aM c') (l.map (vD lW)) vs->bA (aM (YR ρ σ c')) l vs:=fun {l vs} h4 h6=>bA.cI h4.length fun i a b ha hb=>by
  obtain⟨b',jH,q1⟩:=h4.get ha
  rw [hb]at jH;cases jH
  obtain⟨b',jH,q2⟩:=h6.get (k:=i) (a:=vD lW a) (by simp [ha])
  rw [hb]at jH;cases jH
  exact back q1 q2
 refine⟨v,YR ρ σ c',unV ρ r0,fD,rfl,rfl,pU.un h1 h2,fun p hp=>?_,⟨r0,c'.rows,lE,rfl,rfl⟩,AR,XC.un h1⟩
 have h3:=hG p hp
 have h4:=J6 (shV lW p.1,p.2) ⟨p.1,h3,rfl⟩
 obtain⟨p,v⟩:=p
 simp only at h3 h4 |-
 cases p with
 | ag l =>
  obtain⟨vs,q1,q2⟩:=h3
  obtain⟨yV,q3,q4⟩:=h4
  have:vs=yV:=by rw [q1]at q3;simpa using q3
  subst this
  exact⟨vs,q1,AS q2 q4⟩
 | dK l =>
  obtain⟨vs,q1,q2⟩:=h3
  obtain⟨yV,q3,q4⟩:=h4
  have:vs=yV:=by rw [q1]at q3;simpa using q3
  subst this
  exact⟨vs,q1,AS q2 q4⟩
 | rC f fs bR =>
  obtain⟨us,cs,q1,q2,q2'⟩:=h3
  obtain⟨us',cs',q3,q4,q4'⟩:=h4
  have:us=us'∧cs=cs':=by rw [q1]at q3;simpa using q3
  obtain⟨rfl,rfl⟩:=this
  exact⟨us,cs,q1,AS q2 q4,AS q2' q4'⟩
 | _=>simp only [aK,shV]at h3 h4 |-;exact back h3 h4
def UA(E:Env)(rs:List ResultVar)(R:PV->Rows->Nat->Prop):PX->PS->Prop
 | .normal,σ=>lJ E σ rs fun vs=>vs.all cY=true∧R (qC vs) σ.rows σ.clock
 | .ret,σ=>lJ E σ rs fun vs=>vs.all cY=true∧R (qC vs) σ.rows σ.clock
 | .exit _,_=>False
theorem YS(tl:Nat->Nat)(l:List (Nat × PV))(h1:E.P.funcs[yM]? = some fn)(h2:fn.body=some code) (h3:(fn.name == "runtime.NumGoroutine") = false)
  (iD:fQ E fn.ntmps tl code=true) (dQ:args.length<=fn.ntmps) (hl:∀p∈l,args.getD p.1 .undef=p.2) (h:W E fn.ntmps tl code (UA E fn.results.toList R) ⟨fa l,rows,clk⟩):yZ E.P yM args rows clk R:=by
 have hW:=W.ghf (E:=E) (n:=fn.ntmps) l (f:=fun s=>args.getD s .undef) (by simpa using hl) h
 refine⟨⟨fn,code,h1,h2,h3⟩,fun w0 S0 c vs G hI hr gS gE hG=>?_⟩
 refine calls_of_wp h1 h2 ?_
 have RO:=gE.length
 have KR:Rel w0 S0 fn.ntmps G (O4 args rows clk) { tmps:=vs.toArray++Array.replicate (fn.ntmps-vs.toArray.size) undef,defers:=[] } c.w:=
  ⟨⟨c,rfl,hr,gS,hI,fun s=>BE gE s,hG⟩,by simp;omega,rfl⟩
 refine hW iD w0 S0 G _ _ _ KR ?_
 have fin:∀(σ':PS) a' w',(lJ E σ' fn.results.toList fun vs=>vs.all cY=true∧R (qC vs) σ'.rows σ'.clock)->Rel w0 S0 fn.ntmps G σ' a' w'->a'.defers = [] ∧ ∃v,(results fn a'.tmps).run E.P w' = .ok v w' ∧
   ∃v' c' r fD,Ending.returned v = .returned v'∧c'.w=w'∧Inv w0 S0 c'∧(∀p∈G,aK c' p.1 p.2)∧R r c'.rows fD∧(∀v,c'.used v->v<fD)∧aK c' r v':=by
  rintro σ' a' w' hx ⟨⟨c',rfl,jO,AR,pU,hf',J6⟩,hn,gF⟩
  obtain⟨us,yV,⟨k1,k3⟩,k5,k6⟩:=vW (E:=E) (clk:=σ'.clock) pU (fn:=fn) hf' (by rw [jO];exact hx)
  refine⟨gF,_,k6,_,c',_,σ'.clock,rfl,rfl,pU,J6,by rw [jO];exact k3,AR,?_⟩
  have key:us.length≠1->aK c' (.dK us) (.tuple yV.toArray):=fun _=>by
   refine⟨yV,rfl,bA.cI k5.length fun i a b ha hb=>?_⟩
   obtain⟨b',jH,q⟩:=k5.get ha
   rw [hb]at jH;cases jH
   exact aM.jS (q.rep (List.all_eq_true.1 k1 a (List.mem_of_getElem? ha)))
  match us,yV,k5 with
  | [],[],_=>simpa [qC]using key aG
  | [p],[v],k5=>simpa [qC]using k5.1
  | p::q::us,v::u::yV,k5=>simpa [qC]using key aG
 intro x σ' a' w' hx lE
 cases x with
 | normal=>exact fin σ' a' w' hx lE
 | ret=>exact fin σ' a' w' hx lE
 | exit id=>exact hx.elim
theorem PF{rows':Rows}{id:Nat}(h:∀m,m≠id->rows' (m+1000000)=rows (m+1000000))(j:Nat)(h1:lW<=j)(h2:j≠id+1000000):rows' j=rows j:=by
 obtain⟨m,rfl⟩:∃m,j=m+1000000:=⟨j-1000000,by have:lW=1000000:=rfl;omega⟩
 exact h m aA
theorem IP(tl:Nat->Nat){o:Option (Nat × Nat)}{e:TypeId}{n:Nat}{els i5:List (List PV)}(l:List (Nat × PV))(h1:E.P.funcs[yM]? = some fn)(h2:fn.body=some code) (h3:(fn.name == "runtime.NumGoroutine") = false)
  (iD:fQ E fn.ntmps tl code=true) (dQ:args.length+1<=fn.ntmps) (hl:∀q:PV,∀p∈(0,q)::l,(q::args).getD p.1 .undef=p.2)
  (h:∀id ver (rows:Rows) clk,rows (id+1000000)=some ⟨ver,e,n,els⟩->W E fn.ntmps tl code (UA E fn.results.toList fun r' rows' _=>r'=r∧rows' (id+1000000)=some ⟨ver,e,n,i5⟩ ∧ ∀j,lW<=j->j≠id+1000000->rows' j=rows j) ⟨fa ((0,hdP o (id+1000000) ver)::l),rows,clk⟩) :
  AK E.P yM o args e n els i5 r:=by
 intro id0 ver rows clk iH iQ lG
 obtain⟨id,rfl⟩:∃id,id0=id+1000000:=⟨id0-1000000,by have:lW=1000000:=rfl;omega⟩
 exact YS tl ((0,hdP o (id+1000000) ver)::l) h1 h2 h3 iD (by simpa using dQ) (hl _) (h id ver rows clk iQ)
theorem AB.rG{f:FuncId}(h:AB P f args r)(hp:args.all cY=true):yZ P f args rows clk (fun r' rows' fD=>r'=r∧rows'=rows∧fD=clk):=by
 obtain⟨h0,CZ⟩:=h
 refine⟨h0,fun w0 S0 c vs G hI iQ gS dQ hG=>?_⟩
 subst iQ
 have c8:∀b o,c.S b o->b<c.w.heap.size:=fun b o hb=>hI.lt hb
 have gE:b6 c.S c.w args vs:=cX.2 (bA.cI dQ.length fun k p u pT hu=>by
  obtain⟨u',g1,g2⟩:=dQ.get pT
  rw [hu]at g1;cases g1
  exact g2.rep (List.all_eq_true.1 hp p (List.mem_of_getElem? pT)))
 refine(CZ c.w c.S vs c8 gE).mono ?_
 rintro x w' ⟨v',rfl,hb,S',g1,g2,g3⟩
 obtain⟨hI2,hA2⟩:=hI.grow hb g1 g2
 exact⟨v',_,r,clk,rfl,rfl,hI2,fun p pT=>aK.tB hA2 _ _ (hG p pT),⟨rfl,rfl,rfl⟩,gS,aK.jS g3⟩
theorem ayA{eQ:List PV}{K:PV->Rows->Nat->Prop}{v:PV}(h:AB P g eQ v)(hp:eQ.all cY=true)(hK:go (K v rows clk)):qA P g eQ rows clk K:=
 ⟨_,h.rG hp,by rintro r rows' fD ⟨rfl,rfl,rfl⟩;exact hK⟩
end Pm
namespace Go.Proofs.YtiobceocpabjdaaGreat
open Go Pm
variable {x:List Int}{i m k s s':Nat}{A B c:Int}
set_option maxHeartbeats 2000000 in
theorem adX{l:List RE}(hl:l.length<1048576):jZ env.P 37 [aJ fW l] 85 9 (emap fW (FO l)):=by
 refine kE (E:=env) (fun _=>0) (t:=2) [(0,aJ fW l)] Tryz.func37 rfl cT cT (show 1<=46 by decide) rfl aG ?_
 apply fK [0] [0,3]
 refine W.nil 3 3 85 9 aG aF fun K hK=>?_
 refine W.lw [0,3] hK ?_;clear hK K;simp
 apply eE [0,3,7,8]
 refine W.bB (fun k σ=>∃(i v3:Nat),bF σ [(0,aJ fW l),(3, .own 3 v3 0 i),(7,aB l.length),(8,aB i)] fun rows clk=>i+k=l.length∧rows 3=some ⟨v3,85,9,emap fW (FO (l.take i))⟩) l.length ?_ ?_
 ·exact⟨_, .refl,0,_,_,_,rfl,aA,by simp [FO,FN,emap]⟩
 rintro k _ ⟨i,v3,rows,clk,rfl,tM,bK⟩
 apply cN [0,3,7,8,9]
 refine W.cond ⟨_,rfl,fun h=>?_,fun h=>?_⟩
 ·have hi:i<l.length:=by simp at h;omega
  have AZ:(FO (l.take i)).length=i:=by rw [T9,List.length_take];omega
  have fA:=adV hi
  rw [BO,ayz,AZ]at fA
  generalize FO (l.take i)=S at *
  apply oR [0,3,4,7,8]
  apply fJ bK [0,3,4,5,7,8]
  apply (nC)
  refine W.bB (fun k σ=>∃(j:Nat),σ=⟨fa [(0,aJ fW l),(3, .own 3 v3 0 i),(4,aB i),(5,aB j),(7,aB l.length),(8,aB i)],rows,clk⟩∧j<=i∧zJ RE.t (nth l i).t S i=zJ RE.t (nth l i).t S j∧j=k) i ?_ ?_
  ·exact⟨_, .refl,i,rfl,Nat.le_refl _,rfl,rfl⟩
  rintro m _ ⟨j,rfl,J7,hp,rfl⟩
  apply W.seq
  refine W.TD (fun σ=>∃(b:Bool),σ=⟨fa [(0,aJ fW l),(3, .own 3 v3 0 i),(4,aB i),(5,aB j),(7,aB l.length),(8,aB i),(28, .bool b)],rows,clk⟩∧b=bef RE.t (nth l i).t S j) (fun K hK=>?_) ?_
  ·cases j with
   | zero =>
    apply (cV)
    exact hK _ _ (aD _ [0,3,4,5,7,8,28]) ⟨_,rfl,rfl⟩
   | succ j =>
    have hL:=adT (nth l i).t (nth S j).t
    simp only [F2]at hL
    have hjS:j<S.length:=aA
    have mX:(0:Int)<(j:Int)+1:=aA
    simp (disch:=omega) [gw,bK,fL,hjS,mX,hi]
    apply jW hL
    exact hK _ _ (aD _ [0,3,4,5,7,8,28]) ⟨_,rfl,rfl⟩
  rintro _ ⟨b,rfl,hb⟩
  refine W.cond ⟨_,rfl,fun h=>?_,fun h=>?_⟩
  ·subst h
   cases j with
   | zero=>simp [bef]at hb
   | succ j =>
    have hb:yQ (nth l i).t (nth S j).t=true:=hb.symm
    apply (uV)
    refine W.bY (fun K hK=>?_);simp (disch:=omega) [gw]
    exact hK _ ⟨j,_,aD _ [0,3,4,5,7,8],aA,j,rfl,aA,by rw [hp,s8,if_pos hb],rfl⟩
  ·subst h
   have hpj:=T7 hb.symm
   rw [hp,hpj]at fA
   apply (gK)
   clear hp
   have hpe:∀e∈emap fW (S.drop j),∀p∈e,bE p=true:=by
    intro e he p hp
    obtain⟨y,_,rfl⟩:=List.mem_map.1 he
    exact List.all_eq_true.1 (BN y) p hp
   have hld:(S.drop j).length=i-j:=by simp [AZ]
   have hT:List.take (i-j) (List.drop j (emap fW S))=emap fW (S.drop j):=by
    rw [List.take_of_length_le (by simp [emap,AZ])]
    simp [emap]
   refine W.K1 fun K hK=>?_
   simp (disch:=omega) [gw,bK,hi,fL,AZ,hld,hT]
   refine aCT (fun h=>by simpa [emap,AZ]using h) (by simp [emap,AZ];omega) ?_
   apply (cV)
   refine aY (by refine⟨?_,?_,?_⟩<;>kernel_rfl) ?_
   apply (cV)
   refine hK _ ?_;clear hK K
   refine W.bY (fun K hK=>?_);simp (disch:=omega) [gw]
   refine hK _ ⟨k-1,_,aD _ [0,3,7,8],aA,i+1,_,_,_,by rw [show j+(i-j+1)=i+1 by omega];rfl,aA,?_⟩
   rw [fA]
   simp [emap,fL,RE.nz]
 ·have hi:i=l.length:=by simp at h;omega
  subst hi
  rw [List.take_length]at bK
  apply xY [2]
  apply W.ret
  refine⟨3,v3,by simp [emap,T9],bK,fun x hx p hp=>?_⟩
  obtain⟨r,_,rfl⟩:=List.mem_map.1 hx
  exact List.all_eq_true.1 (BN r) p hp
theorem ast(n:Int)(h0:0<=n)(h1:n<4294967296):aC 269 [.int .u32 n] (aB (32-nb n.toNat)):=by
 apply cG [(0, .int .u32 n)] Tryz.func269
 apply aQ [0]
 apply nB (MH n h0 h1)
 have:nb n.toNat<=32:=rL.2 aA
 exact gI [2]
theorem alY(l:List Int)(n:Nat)(hn:n<=31)(hl:l.length<1099511627775)(lm:dH 4294967296 l):aC 275 [us l,aB n] (N (V 4294967296 l*2^n)):=by
 apply cG [(0,us l),(1,aB n)] Tryz.func275
 apply aQ [0,1]
 have gS:=cL l
 apply (tI)
 refine bC (eJ l aA) ?_
 apply bT [0,1]
 have lx:=fR lm
 have hV:=dU (b:=4294967296) l
 rw [<-hV]
 have hxl:(aZ l).length<1099511627775:=aA
 clear hV
 generalize aZ l=x at *
 have h65:¬(65536<(n:Int)):=aA
 have e0:(if 0<n then(n:Int)else 0)=n:=by split<;>omega
 apply W.sr
 simp (disch:=omega) [gw,h65,e0]
 apply cO [0,1]
 apply cQ [0,1,18]
 refine W.cond ⟨_,rfl,fun h=>?_,fun h=>?_⟩
 ·have h:x = []:=by simp at h;exact h
  subst h
  apply aQ [4]
  apply W.ret
  simp [go,V]
  rfl
 have h:x ≠ []:=by simp at h;exact h
 apply W.skip
 have d1:(n:Int)/32=0:=aA
 have d2:(n:Int)%32=n:=aA
 apply W.sr
 simp (disch:=omega) [gw,d1,d2]
 apply cO [0,5,6]
 apply aQ [0,5,6,7]
 apply eE [5,6,7,30,31,32]
 have h2n:(2:Int)^n<=2147483648:=by
  have:=Int.ofNat_le.2 (Nat.pow_le_pow_right (show 0<2 by decide) hn)
  simpa using this
 have h2p:(0:Int)<2^n:=Int.pow_pos aF
 have h2d:(2:Int)^n∣4294967296:=by
  refine⟨2^(32-n),?_⟩
  rw [<-Int.pow_add,show n+(32-n)=32 by omega];rfl
 refine W.bB (fun q σ=>∃(i v:Nat) (z:List Int),bF σ [(5,aB 0),(6, .int .u64 n),(7, .own 29 v 0 (x.length+1)),(30,us x),(31,aB x.length),(32,aB i)] fun rows clk =>
  rows 29=some ⟨v,185,1,emap u32 z⟩∧q=x.length-i∧i<=x.length∧z.length=x.length+1∧dH 4294967296 z∧V 4294967296 (z.take (i+1))=V 4294967296 (x.take i)*2^n∧nth z i<2^n) x.length ?_ ?_
 ·exact⟨_, .refl,0,_,List.replicate (x.length+1) 0,_,_,rfl,aG,aA,aA,aG,dH.rep aF _,by simp [V,List.replicate_succ],by rw [bZ aG];simp;exact h2p⟩
 rintro q _ ⟨i,v,z,rows,clk,rfl,hr,hq,hi,hz,lz,hV,hzi⟩
 apply cN [5,6,7,30,31,32,33]
 refine W.cond ⟨_,rfl,fun h=>?_,fun h=>?_⟩
 ·have hi:i<x.length:=by simp at h;omega
  have hw:=lx.nth hi
  apply oR [5,6,7,8,9,30,31,32]
  have hVx:=bG (b:=4294967296) hi
  generalize hwe:nth x i=w at *
  have hv0:0<=w*2^n:=Int.mul_nonneg hw.1 aA
  have hv1:w*2^n<4294967296*2^n:=Int.mul_lt_mul_of_pos_right hw.2 h2p
  have hvd:(2^n:Int)∣w*2^n:=⟨w,Int.mul_comm _ _⟩
  have hwr:IntKind.u64.wrap (w*2^n)=w*2^n:=wrap_u64 hv0 aA
  have aDV:=lz.nth (i:=i) aA
  apply fJ hwr [5,6,7,8,10,30,31,32]
  have aDW:V 4294967296 (x.take (i+1))*2^n=V 4294967296 (x.take i)*2^n+4294967296^i*(w*2^n):=by rw [hVx];grind
  generalize hve:w*2^n=y at *
  have ayC:(2^n:Int)∣y%4294967296:=by
   rw [Int.emod_def]
   exact Int.dvd_sub hvd (Int.dvd_trans h2d (Int.dvd_mul_right _ _))
  have aHc:y%4294967296+2^n<=4294967296:=by
   obtain⟨c,hc⟩:=ayC
   obtain⟨d,hd⟩:=h2d
   have h1:(2^n:Int)*c<2^n*d:=by have:=Int.emod_lt_of_pos y (show (0:Int)<4294967296 by decide);omega
   have h2:c<d:=Int.lt_of_mul_lt_mul_left h1 aA
   have h3:=Int.mul_le_mul_of_nonneg_left (show c+1<=d by omega) (show 0<=(2^n:Int)by omega)
   rw [Int.mul_add]at h3
   omega
  have hor:=(alp (a:=y%4294967296) (b:=nth z i) n aA aDV.1 ayC hzi aA).2
  have hwy:IntKind.u32.wrap y=y%4294967296:=wrap_u32'
  apply W.sr
  simp (disch:=omega) [gw,hr,hz,hwy,hor]
  apply cO [5,6,7,8,10,30,31,32]
  refine W.bY fun K hK=>?_
  apply eV hz
  refine W.lw [5,6,7,30,31,32] hK ?_;clear hK K;simp
  refine W.bY (fun K hK=>?_);simp (disch:=omega) [gw]
  refine hK _ ⟨x.length-(i+1),_,aD _ [5,6,7,30,31,32],aA,i+1,v,(z.set i (y%4294967296+nth z i)).set (i+1) (y/4294967296),_,_,rfl,aG,aA,aA,by simp [hz],(lz.set ⟨aA,aA⟩).set ⟨aA,aA⟩,?_,?_⟩
  ·have q1:=gY (b:=4294967296) (l:=z.set i (y%4294967296+nth z i)) (i:=i+1) (x:=y/4294967296) (by simp;omega)
   have q2:=gY (b:=4294967296) (l:=z) (i:=i) (x:=y%4294967296+nth z i) aA
   have q3:=bG (b:=4294967296) (l:=z) (i:=i) aA
   have q4:=Int.mul_ediv_add_emod y 4294967296
   rw [q1,q2,aDW,<-hV,q3,Int.pow_succ]
   generalize y/4294967296=yq at *
   generalize y%4294967296=yr at *
   rw [<-q4];grind
  ·rw [gP (by simp;omega)];omega
 ·have hi:i=x.length:=by simp at h;omega
  subst hi
  have hVz:V 4294967296 z=V 4294967296 x*2^n:=by
   rw [bM aA,bM (Nat.le_refl _)]at hV;exact hV
  have zz:=bW hz
  have qZ:=eJ z aA
  rw [BF lz,hVz]at qZ
  apply (jV)
  simp (disch:=omega) [gw,hr,zz]
  apply jW qZ
  exact pJ [4]
theorem UB(l:List Int)(n m:Nat)(hn:n<=31)(hl:l.length<1099511627775)(lm:dH 4294967296 l)(WI:0<m)(MG:m<1099511627776)(hb:V 4294967296 l*2^n<4294967296^m) :
  ∃y:List Int,jZ env.P 270 [us l,aB n,aB m] 185 1 (emap u32 y)∧y.length=m∧dH 4294967296 y∧V 4294967296 y=V 4294967296 l*2^n:=by
 have hp:0<=V 4294967296 l*2^n:=Int.mul_nonneg (bV aF lm) (Int.le_of_lt (Int.pow_pos aF))
 obtain⟨N0,hN⟩:=Int.eq_ofNat_of_zero_le hp
 have hS:=alY l n hn hl lm
 rw [hN]at hS hb
 replace hS:aC 275 [us l,aB n] (us (aV LL N0)):=hS
 have hdl:(aV LL N0).length<=m:=FV iT (by
  have h4:((4294967296^m:Nat):Int)=(4294967296:Int)^m:=Int.natCast_pow 4294967296 m
  show N0<4294967296^m
  omega)
 have hdm:=gZ iT N0
 have hdv:=nD iT N0
 refine⟨aV LL N0++List.replicate (m-(aV LL N0).length) 0,?_,by simp;omega,dH.append.2 ⟨hdm,dH.rep aF _⟩,by rw [eZ,uN,hN,<-hdv];simp⟩
 generalize aV LL N0=D at *
 refine kE (E:=env) (fun _=>0) (t:=6) [(0,us l),(1,aB n),(2,aB m)] Tryz.func270 rfl cT cT (show 3<=16 by decide) rfl aG ?_
 apply fK [0,1,2] [0,1,7]
 apply nB hS
 apply (cV)
 refine axM (e':=185) (els:=emap u32 (List.replicate m 0)) (l:=emap u32 D) aG aG WI rfl (fun e he=>by simp only [emap,List.mem_map]at he;obtain⟨x,_,rfl⟩:=he;rfl) ?_
 have e1:(emap u32 (List.replicate m 0)).take 0++(emap u32 D).take m++(emap u32 (List.replicate m 0)).drop (0+min (emap u32 D).length m)=emap u32 (D++List.replicate (m-D.length) 0):=by
  simp only [emap,List.take_zero,List.nil_append,List.length_map,Nat.zero_add,List.map_append,Nat.min_eq_left hdl]
  rw [List.take_of_length_le (by simpa using hdl),<-List.map_drop,List.drop_replicate]
 rw [e1]
 generalize hy:D++List.replicate (m-D.length) 0=y at *
 have WN:y.length=m:=by rw [<-hy];simp;omega
 apply bT [7]
 apply aQ [6]
 apply W.ret
 exact⟨9,0,by simp [WN],aG,fun x hx p hp=>by
  simp only [emap,List.mem_map]at hx
  obtain⟨r,_,rfl⟩:=hx
  simp at hp
  subst hp;rfl⟩
theorem al0(a:List Int)(w:Int)(ha:a.length<1099511627775)(la:dH 4294967296 a)(hw0:0<w)(CS:w<4294967296):aC 268 [us a, .int .u32 w] (.dK [N (V 4294967296 a/w), .int .u32 (V 4294967296 a%w)]):=by
 apply cG [(0,us a),(1, .int .u32 w)] Tryz.func268
 apply aQ [0,1]
 apply fK [0,1,6] [0,1,6,7]
 apply eE [0,1,6,7,8]
 refine W.bB (fun q σ=>∃(v:Nat) (r:Int) (z:List Int),bF σ [(0,us a),(1, .int .u32 w),(6, .own 12 v 0 a.length),(7, .int .u64 r),(8,aB ((q:Int)-1))] fun rows clk =>
  rows 12=some ⟨v,185,1,emap u32 z⟩∧q<=a.length∧z.length=a.length∧dH 4294967296 z∧V 4294967296 (z.drop q)*w+r=V 4294967296 (a.drop q)∧0<=r∧r<w) a.length ?_ ?_
 ·exact⟨_, .refl,0,0,List.replicate a.length 0,_,_,rfl,aG,aA,aG,dH.rep aF _,by simp [V],aA,hw0⟩
 rintro q _ ⟨v,r,z,rows,clk,rfl,hr,hq,hz,lz,hV,qW,yI⟩
 apply cQ [0,1,6,7,8,17]
 refine W.cond ⟨_,rfl,fun h=>?_,fun h=>?_⟩
 ·have WL:0<q:=by simp at h;omega
  obtain⟨j,rfl⟩:∃j,q=j+1:=⟨q-1,aA⟩
  clear h
  have hj:=la.nth (i:=j) aA
  have ej:((j+1:Nat):Int)-1=j:=aA
  rw [ej]
  have hVa:V 4294967296 (a.drop j)=nth a j+4294967296*V 4294967296 (a.drop (j+1)):=by rw [gW aA];rfl
  generalize hxe:nth a j=x at *
  have hrb:r*4294967296<18446744073709551616:=aA
  have hor:=(FY (a:=r*4294967296) (b:=x) 32 aA hj.1 ⟨r,by rw [Int.mul_comm];rfl⟩ (by simpa using hj.2) aA).1
  apply (iE)
  apply qY hxe hor [0,1,6,8,9]
  have hs:(r*4294967296+x)/w<4294967296:=Int.ediv_lt_of_lt_mul hw0 (by
   have:=Int.mul_le_mul_of_nonneg_right (show r+1<=w by omega) (show (0:Int)<=4294967296 by decide)
   rw [Int.mul_comm 4294967296];omega)
  have hs0:0<=(r*4294967296+x)/w:=Int.ediv_nonneg aA aA
  have WI:=Int.emod_nonneg (r*4294967296+x) (show w≠0 by omega)
  have MG:=Int.emod_lt_of_pos (r*4294967296+x) hw0
  have hde:=Int.mul_ediv_add_emod (r*4294967296+x) w
  have hw':¬w=0:=aA
  refine W.K1 fun K hK=>?_
  apply zD hr hz hw'
  refine aY cT ?_
  apply zD hr hz hw'
  refine W.lw [0,1,6,7,8] hK ?_;clear hK K;simp
  refine W.bY (fun K hK=>?_);simp (disch:=omega) [gw]
  refine hK _ ⟨j,_,aD _ [0,1,6,7,8],aA,v,(r*4294967296+x)%w,z.set j ((r*4294967296+x)/w),_,_,rfl,aG,aA,by simp [hz],lz.set ⟨hs0,hs⟩,?_,WI,MG⟩
  rw [gW (l:=z.set j _) (i:=j) (by simp;omega),gP aA,hVa,<-hV,List.drop_set_of_lt aA]
  simp only [V]
  generalize (r*4294967296+x)/w=qq at *
  generalize (r*4294967296+x)%w=rr at *
  grind
 ·have WL:q=0:=by simp at h;omega
  subst WL
  have zz:=bW hz
  have qZ:=eJ z aA
  simp only [List.drop_zero]at hV
  have h1:V 4294967296 z=V 4294967296 a/w∧r=V 4294967296 a%w:=by
   have h2:V 4294967296 a/w=V 4294967296 z:=by
    have e:(V 4294967296 z+1)*w=V 4294967296 z*w+w:=aT
    rw [Int.ediv_eq_iff_of_pos hw0]
    constructor<;>omega
   refine⟨h2.symm,?_⟩
   have h3:=Int.emod_def (V 4294967296 a) w
   rw [h2,Int.mul_comm]at h3
   omega
  rw [BF lz,h1.1]at qZ
  have bS:=h1.2
  apply (jV)
  simp (disch:=omega) [gw,hr,zz]
  apply jW qZ
  apply cO [4,5]
  apply W.ret
  simp [go,bS]
theorem tS(h:x.length<=i):nth x i=0:=kA h
theorem al1(l:List Int)(n:Nat)(hn:n<=31)(hl:l.length<1099511627775)(lm:dH 4294967296 l):aC 272 [us l,aB n] (N (V 4294967296 l/2^n)):=by
 apply cG [(0,us l),(1,aB n)] Tryz.func272
 apply aQ [0,1]
 have gS:=cL l
 apply (tI)
 refine bC (eJ l aA) ?_
 apply bT [0,1]
 have lx:=fR lm
 have hV:=dU (b:=4294967296) l
 rw [<-hV]
 have hxl:(aZ l).length<1099511627775:=aA
 clear hV
 generalize aZ l=x at *
 have h65:¬(65536<(n:Int)):=aA
 have e0:(if 0<n then(n:Int)else 0)=n:=by split<;>omega
 apply W.sr
 simp (disch:=omega) [gw,h65,e0]
 apply cO [0,1]
 have d1:(n:Int)/32=0:=aA
 have d2:(n:Int)%32=n:=aA
 apply W.sr
 simp (disch:=omega) [gw,d1,d2]
 apply cO [0,5,6]
 apply cQ [0,5,6,23]
 refine W.cond ⟨_,rfl,fun h=>?_,fun h=>?_⟩
 ·have h:x = []:=by simp at h;exact h
  subst h
  apply aQ [4]
  apply W.ret
  simp [go,V]
  rfl
 have h:x ≠ []:=by simp at h;exact h
 apply W.skip
 apply aQ [0,5,6,7]
 apply eE [0,5,6,7,30,31]
 have h2p:(0:Int)<2^n:=Int.pow_pos aF
 have h2e:(0:Int)<2^(32-n):=Int.pow_pos aF
 have h2d:(2:Int)^n*2^(32-n)=4294967296:=by
  rw [<-Int.pow_add,show n+(32-n)=32 by omega];rfl
 refine W.bB (fun q σ=>∃(i v:Nat) (z:List Int),bF σ [(0,us x),(5,aB 0),(6, .int .u64 n),(7, .own 28 v 0 x.length),(30,aB x.length),(31,aB i)] fun rows clk =>
  rows 28=some ⟨v,185,1,emap u32 z⟩∧q=x.length-i∧i<=x.length∧z.length=x.length∧dH 4294967296 z∧2^n*V 4294967296 (z.take i)+nth x 0%2^n=V 4294967296 (x.take i)+(nth x i%2^n)*4294967296^i) x.length ?_ ?_
 ·exact⟨_, .refl,0,_,List.replicate x.length 0,_,_,rfl,aG,aA,aA,aG,dH.rep aF _,by simp [V]⟩
 rintro q _ ⟨i,v,z,rows,clk,rfl,hr,hq,hi,hz,lz,hV⟩
 apply cN [0,5,6,7,30,31,32]
 refine W.cond ⟨_,rfl,fun h=>?_,fun h=>?_⟩
 ·have hi:i<x.length:=by simp at h;omega
  have hw:=lx.nth hi
  have hw2:0<=nth x (i+1)∧nth x (i+1)<4294967296:=by
   rcases Nat.lt_or_ge (i+1) x.length with h3 | h3
   ·exact lx.nth h3
   ·rw [tS h3];decide
  have hVx:=bG (b:=4294967296) hi
  obtain⟨q1,q2,q3⟩:=ag4 h2p h2e h2d hw hw2
  generalize hwe:nth x i=w at *
  apply oR [0,5,6,7,8,30,31]
  apply fJ hwe [0,5,6,7,8,9,30,31]
  refine W.iS (fun σ=>bF σ [(0,us x),(5,aB 0),(6, .int .u64 n),(7, .own 28 v 0 x.length),(8,aB i),(9, .int .u64 (w+4294967296*nth x (i+1))),(30,aB x.length),(31,aB i)] fun rows clk=>rows 28=some ⟨v,185,1,emap u32 z⟩) ?_ ?_
  ·
   apply aQ [0,5,6,7,8,9,30,31,47]
   refine W.cond ⟨_,rfl,fun h=>?_,fun h=>?_⟩
   ·have h:i+1<x.length:=by simp at h;omega
    have hor:=(FY (a:=nth x (i+1)*4294967296) (b:=w) 32 aA hw.1 ⟨nth x (i+1),by rw [Int.mul_comm];rfl⟩ (by simpa using hw.2) aA).2
    rw [show nth x (i+1)*4294967296+w=w+4294967296*nth x (i+1)by omega]at hor
    refine W.bY (fun K hK=>?_);simp (disch:=omega) [gw,hor]
    exact hK _ ⟨_,aD _ [0,5,6,7,8,9,30,31],_,_,rfl,by simp [hr]⟩
   ·have h:x.length<=i+1:=by simp at h;omega
    rw [tS h]
    apply W.skip
    exact⟨_,Gh.fr [(0,us x),(5,aB 0),(6, .int .u64 n),(7, .own 28 v 0 x.length),(8,aB i),(9, .int .u64 (w+4294967296*0)),(30,aB x.length),(31,aB i)] aG,_,_,rfl,by simp [hr]⟩
  rintro _ ⟨rows,clk,rfl,hr⟩
  have hwr:IntKind.u32.wrap ((w+4294967296*nth x (i+1))/2^n)=((w+4294967296*nth x (i+1))/2^n)%4294967296:=wrap_u32'
  have hfd:(w+4294967296*nth x (i+1)).fdiv (2^n)=(w+4294967296*nth x (i+1))/2^n:=Int.fdiv_eq_ediv_of_nonneg _ aA
  refine W.bY fun K hK=>?_
  simp (disch:=omega) [gw,hr,hz,hfd,hwr]
  refine W.lw [0,5,6,7,30,31] hK ?_;clear hK K;simp
  refine W.bY (fun K hK=>?_);simp (disch:=omega) [gw]
  refine hK _ ⟨x.length-(i+1),_,aD _ [0,5,6,7,30,31],aA,i+1,v,z.set i (((w+4294967296*nth x (i+1))/2^n)%4294967296),_,_,rfl,aG,aA,aA,by simp [hz],lz.set ⟨q2,q3⟩,?_⟩
  rw [gY aA,hVx,Int.mul_add,Int.pow_succ]
  generalize ((w+4294967296*nth x (i+1))/2^n)%4294967296=o at *
  generalize nth x (i+1)%2^n=lo1 at *
  generalize w%2^n=lo at *
  have e2:(2:Int)^n*(4294967296^i*o)=4294967296^i*(2^n*o):=aT
  rw [e2,q1]
  grind
 ·have hi:i=x.length:=by simp at h;omega
  subst hi
  have zz:=bW hz
  have qZ:=eJ z aA
  rw [BF lz]at qZ
  rw [zz,List.take_of_length_le (Nat.le_refl _),tS (Nat.le_refl _)]at hV
  have hVz:V 4294967296 x/2^n=V 4294967296 z:=by
   have h5:=Int.emod_nonneg (nth x 0) (show (2^n:Int)≠0 by omega)
   have h6:=Int.emod_lt_of_pos (nth x 0) h2p
   rw [Int.zero_emod,Int.zero_mul,Int.add_zero]at hV
   have e:(V 4294967296 z+1)*2^n=2^n*V 4294967296 z+2^n:=aT
   have e':V 4294967296 z*2^n=2^n*V 4294967296 z:=Int.mul_comm _ _
   rw [Int.ediv_eq_iff_of_pos h2p]
   constructor<;>omega
  rw [hVz]
  apply (jV)
  simp (disch:=omega) [gw,hr,zz]
  apply jW qZ
  exact pJ [4]
theorem jA(z:List Int)(o k:Nat):nth (z.drop o) k=nth z (o+k):=by simp [nth,List.getElem?_drop]
theorem pW(z:List Int)(o k:Nat)(x:Int):(z.set (o+k) x).drop o=(z.drop o).set k x:=by
 rw [List.drop_set]
 rw [if_neg aA]
 congr 1;omega
set_option maxHeartbeats 2000000 in
theorem YT{id ver off:Nat}(zl y:List Int)(rows:Pm.Rows)(clk:Nat)(hr:rows id=some ⟨ver,185,1,emap u32 zl⟩)(WN:y.length=m+2)(hym:m<1099511627776)(ly:dH 4294967296 y)(aJe:2147483648<=nth y (m+1))(lz:dH 4294967296 zl)
  (afv:off+m+3<=zl.length) (N7:zl.length<1099511627776) (c8:V 4294967296 ((zl.drop off).take (m+3))<4294967296*V 4294967296 y) :
  yZ env.P 271 [.own id ver off (m+3),us y] rows clk (fun r rows' fD=>∃D:List Int,r = .int .u32 (V 4294967296 ((zl.drop off).take (m+3))/V 4294967296 y)∧rows'=eO rows id (some ⟨ver,185,1,emap u32 (zl.take off++D)⟩)∧fD=clk ∧
   D.length=(zl.drop off).length∧dH 4294967296 D∧D.drop (m+3)=(zl.drop off).drop (m+3)∧V 4294967296 (D.take (m+3))=V 4294967296 ((zl.drop off).take (m+3))%V 4294967296 y):=by
 obtain⟨YU,hc⟩:=axH (D:=zl.drop off) (by simp;omega) WN (lz.drop off) ly aA c8
 have l1:=ly.nth (i:=m) aA
 have l2:=ly.nth (i:=m+1) aA
 have k0:=(lz.drop off).nth (i:=m) (by simp;omega)
 have k1:=(lz.drop off).nth (i:=m+1) (by simp;omega)
 have k2:=(lz.drop off).nth (i:=m+2) (by simp;omega)
 have n0:=jA zl off m
 have n1:=jA zl off (m+1)
 have n2:=jA zl off (m+2)
 have hDl:(zl.drop off).length=zl.length-off:=aG
 have hYb:V 4294967296 y<4294967296^(m+2):=by have:=sU aF ly;rwa [WN]at this
 have hX:V 4294967296 ((zl.drop off).take (m+3))=V 4294967296 ((zl.drop off).take (m+2))+4294967296^(m+2)*nth (zl.drop off) (m+2):=bG (by simp;omega)
 refine YF (E:=env) (fun _=>0) (t:=4) [(0, .own id ver off (m+3)),(1,us y)] Tryz.func271 rfl cT cT (show 2<=170 by decide) rfl aG ?_
 apply aQ [0,1]
 apply fJ WN [0,1,5]
 have a1:((m:Int)+2-1)=((m+1:Nat):Int):=aA
 have a2:((m:Int)+2-2)=(m:Int):=aA
 apply W.sd
 simp (disch:=omega) [gw,WN,a1,a2]
 apply cO [0,1,5,6,7]
 rw [n0]at k0 YU
 rw [n1]at k1 YU
 rw [n2]at k2 YU hc hX
 generalize hxa:nth zl (off+m)=xa at *
 generalize hxb:nth zl (off+(m+1))=xb at *
 generalize hxc:nth zl (off+(m+2))=xc at *
 generalize htt:nth y (m+1)=top at *
 generalize hnn:nth y m=nx at *
 have hor:=(FY (a:=xc*4294967296) (b:=xb) 32 aA k1.1 ⟨xc,by rw [Int.mul_comm];rfl⟩ (by simpa using k1.2) aA).1
 have htp:¬top=0:=aA
 apply W.sd
 have a3:((m:Int)+2).toNat=m+2:=aA
 simp (disch:=omega) [gw,hr,a1,a3,hxb,hxc,hor]
 apply cO [0,1,5,6,7,8]
 generalize hXX:V 4294967296 ((zl.drop off).take (m+3))=X at *
 generalize hYY:V 4294967296 y=Y at *
 have hY0:=YU.Y0
 have hX0:0<=X:=by rw [<-hXX];exact bV aF ((lz.drop off).take _)
 have hhd:xc*4294967296+xb<=top*4294967296+4294967296-1:=aA
 have hf:=YU.first
 have hg0:=Int.ediv_nonneg YU.h0 (show 0<=top by omega)
 have hde:=Int.mul_ediv_add_emod (xc*4294967296+xb) top
 have qW:=Int.emod_nonneg (xc*4294967296+xb) htp
 have yI:=Int.emod_lt_of_pos (xc*4294967296+xb) (show 0<top by omega)
 have hgu:(xc*4294967296+xb)/top<=4294967297:=by
  rcases Int.lt_or_le 4294967297 ((xc*4294967296+xb)/top)with h | h
  ·exfalso
   have:=Int.mul_le_mul_of_nonneg_left (show 4294967298<=(xc*4294967296+xb)/top by omega) (show 0<=top by omega)
   omega
  ·exact h
 rw [Int.mul_comm]at hde
 have hh0:=YU.h0
 generalize hhe:xc*4294967296+xb=head at *
 have hwq:IntKind.u64.wrap (head/top)=head/top:=wrap_u64 hg0 aA
 apply qY htp hwq [0,1,5,6,7,8,9]
 apply fJ htp [0,1,5,6,7,9,10]
 refine W.dS (fun σ=>∃(g:Int),σ=⟨fa [(0, .own id ver off (m+3)),(1,us y),(5,aB ((m:Int)+2)),(9, .int .u64 g)],rows,clk⟩∧0<=g∧g<4294967296∧X<(g+1)*Y∧g*Y<X+Y) ?_ ?_
 ·
  refine W.bB (fun k σ=>∃(g r:Int),σ=⟨fa [(0, .own id ver off (m+3)),(1,us y),(5,aB ((m:Int)+2)),(6, .int .u64 top),(7, .int .u64 nx),(9, .int .u64 g),(10, .int .u64 r)],rows,clk⟩∧k=g.toNat∧0<=g∧g<=4294967297∧0<=r∧r<4294967296∧g*top+r=head∧X<(g+1)*Y) (head/top).toNat ?_ ?_
  ·exact⟨_, .refl,head/top,head%top,rfl,rfl,hg0,hgu,qW,aA,hde,hf⟩
  rintro k _ ⟨g,r,rfl,hk,q1,q2,q3,q4,q5,q6⟩
  apply W.seq
  have aDZ:0<=g*nx:=Int.mul_nonneg q1 l1.1
  refine W.fI (fun σ=>∃(b:Bool),σ=⟨fa [(0, .own id ver off (m+3)),(1,us y),(5,aB ((m:Int)+2)),(6, .int .u64 top),(7, .int .u64 nx),(9, .int .u64 g),(10, .int .u64 r),(71, .bool b)],rows,clk⟩∧(b=true↔4294967296<=g∨r*4294967296+xa<g*nx)) (fun K hK=>?_) ?_
  ·by_cases hb:4294967296<=g
   ·apply eV hb
    exact hK _ _ (aD _ [0,1,5,6,7,9,10,71]) ⟨_,rfl,by simp [hb]⟩
   ·have aJl:g*nx<=4294967295*4294967295:=Int.mul_le_mul aA aA l1.1 aA
    have hwr:IntKind.u64.wrap (g*nx)=g*nx:=wrap_u64 aDZ aA
    have aD0:=(FY (a:=r*4294967296) (b:=xa) 32 aA k0.1 ⟨r,by rw [Int.mul_comm];rfl⟩ (by simpa using k0.2) aA).1
    simp (disch:=omega) [gw,hb,hwr,hr,a2,hxa,aD0]
    exact hK _ _ (aD _ [0,1,5,6,7,9,10,71]) ⟨_,rfl,by simp [hb]⟩
  rintro _ ⟨b,rfl,hb⟩
  refine W.cond ⟨_,rfl,fun h=>?_,fun h=>?_⟩
  ·have h:=hb.1 h
   have ayE:X<g*Y:=by
    rcases h with h | h
    ·exact YU.big h
    ·exact YU.over q1 q5 h
   have hgp:1<=g:=by
    rcases Int.lt_or_le g 1 with h3 | h3
    ·exfalso
     have:g=0:=aA
     rw [this,Int.zero_mul]at ayE;omega
    ·exact h3
   have e5:(g-1)*top+(r+top)=head:=by rw [Int.sub_mul];omega
   have e6:X<(g-1+1)*Y:=by rw [Int.sub_add_cancel];exact ayE
   apply (uV)
   apply aQ [0,1,5,6,7,9,10]
   apply fK [0,1,5,6,7,9,10] [0,1,5,6,7,9,10,78]
   refine W.cond ⟨_,rfl,fun h=>?_,fun h=>?_⟩
   ·have h:4294967296<=r+top:=by simp at h;omega
    have RQ:=YU.ag3 hhd e5 h
    have hnr:=YU.tK aA RQ e5 (YU.axF aA RQ h)
    apply (gK)
    exact⟨_,aD _ [0,1,5,9],g-1,rfl,aA,RQ,e6,hnr⟩
   ·have h:r+top<4294967296:=by simp at h;omega
    apply W.skip
    exact⟨(g-1).toNat,_,aD _ [0,1,5,6,7,9,10],aA,g-1,r+top,rfl,rfl,aA,aA,aA,h,e5,e6⟩
  ·have h:¬(4294967296<=g∨r*4294967296+xa<g*nx):=fun h2=>by rw [hb.2 h2]at h;cases h
   have hnr:=YU.tK q1 aA q5 aA
   apply (gK)
   exact⟨_,aD _ [0,1,5,9],g,rfl,q1,aA,q6,hnr⟩
 rintro _ ⟨g,rfl,g0,g1,hgX,hgY⟩
 clear hf hg0 hde qW yI hgu hor
 apply cN [0,1,5,9,11,12]
 apply fJ WN [0,1,5,9,11,12,79,80,81]
 apply W.block
 refine W.bB (fun q σ=>∃(i:Nat) (c β:Int) (z:List Int) (BP:Pm.Rows),σ=⟨fa [(0, .own id ver off (m+3)),(1,us y),(5,aB ((m:Int)+2)),(9, .int .u64 g),(11, .int .u64 c),(12, .int .u64 β),(79,us y),(80,aB ((m:Int)+2)),(81,aB i)],BP,clk⟩ ∧
  BP id=some ⟨ver,185,1,emap u32 z⟩∧(∀j,j≠id->BP j=rows j)∧q=m+2-i∧i<=m+2∧z.length=zl.length∧dH 4294967296 z∧z.take off=zl.take off∧(z.drop off).drop i=(zl.drop off).drop i∧0<=c∧c<4294967296∧(β=0∨β=1) ∧
  V 4294967296 ((z.drop off).take i)+g*V 4294967296 (y.take i)=V 4294967296 ((zl.drop off).take i)+(c+β)*4294967296^i) (m+2) ?_ ?_
 ·exact⟨_,Gh.fr [(0, .own id ver off (m+3)),(1,us y),(5,aB ((m:Int)+2)),(9, .int .u64 g),(11, .int .u64 0),(12, .int .u64 0),(79,us y),(80,aB ((m:Int)+2)),(81,aB (0:Nat))] aG,0,0,0,zl,rows,rfl,hr,fun _ _=>rfl,aA,aA,rfl,lz,rfl,rfl,aA,aA, .inl rfl,by simp [V]⟩
 rintro q _ ⟨i,c,β,z,BP,rfl,bS,hro,hq,hi,ayF,lz2,hP,hD,c0,c1,hβ,hV⟩
 apply cN [0,1,5,9,11,12,79,80,81,82]
 refine W.cond ⟨_,rfl,fun h=>?_,fun h=>?_⟩
 ·have hi:i<m+2:=by simp at h;omega
  have hw:=ly.nth (i:=i) aA
  have hVy:=bG (b:=4294967296) (l:=y) (i:=i) aA
  have hVx:=bG (b:=4294967296) (l:=zl.drop off) (i:=i) aA
  have hxn:nth z (off+i)=nth (zl.drop off) i:=by
   rw [<-jA]
   have:=congrArg (fun l=>nth l 0) hD
   simpa [jA]using this
  have hx:=(lz.drop off).nth (i:=i) aA
  generalize nth (zl.drop off) i=x at *
  generalize hwe:nth y i=w at *
  obtain⟨s1,s2,β',vB,s3,s4⟩:=ag5 ⟨g0,g1⟩ hw ⟨c0,c1⟩ hx hβ
  apply (iE)
  apply qY WN hwe [0,1,5,9,11,12,13,14,79,80,81]
  have hp1:IntKind.u64.wrap (g*w)=g*w:=wrap_u64 (Int.mul_nonneg g0 hw.1) aA
  have WO:IntKind.u64.wrap (g*w+c)=g*w+c:=wrap_u64 s1.1 aA
  apply qY hp1 WO [0,1,5,9,12,13,15,79,80,81]
  apply aQ [0,1,5,9,11,12,13,15,79,80,81]
  have hp3:IntKind.u32.wrap (g*w+c)=(g*w+c)%4294967296:=wrap_u32'
  have hp4:IntKind.u64.wrap (IntKind.u64.wrap (x-(g*w+c)%4294967296)-β)=(x-(g*w+c)%4294967296-β)%18446744073709551616:=by rw [mG,mG];omega
  apply W.sr
  simp (disch:=omega) [gw,bS,hxn,hp3,hp4]
  apply cO [0,1,5,9,11,13,16,79,80,81]
  have hs3:=s3
  have hs4:=s4
  generalize hss:(x-(g*w+c)%4294967296-β)%18446744073709551616=s at *
  have hp5:IntKind.u32.wrap s=s%4294967296:=wrap_u32'
  have MT:off+i<z.length:=aA
  refine W.bY fun K hK=>?_
  simp (disch:=omega) [gw,bS,hp5,s3,MT]
  refine W.lw [0,1,5,9,11,12,79,80,81] hK ?_;clear hK K;simp
  refine W.bY (fun K hK=>?_);simp (disch:=omega) [gw]
  refine hK _ ⟨m+2-(i+1),_,aD _ [0,1,5,9,11,12,79,80,81],aA,i+1,(g*w+c)/4294967296,β',z.set (off+i) (s%4294967296),_,rfl,aG,fun j hj=>by simp [hj,hro j hj],aA,aA,by simp [ayF],lz2.set ⟨aA,aA⟩,by rw [jI aA,hP],?_,s2.1,s2.2,vB,?_⟩
  ·rw [pW,List.drop_set_of_lt aA]
   have:=congrArg (List.drop 1) hD
   rw [List.drop_drop,List.drop_drop,List.drop_drop,List.drop_drop]at this
   rw [List.drop_drop,List.drop_drop]
   exact this
  ·rw [pW,gY (by simp;omega),hVy,hVx,s4,Int.pow_succ]
   have h10:=Int.mul_ediv_add_emod (g*w+c) 4294967296
   generalize (g*w+c)/4294967296=pq at *
   generalize (g*w+c)%4294967296=pr at *
   generalize (4294967296:Int)^i=bi at *
   have e7:g*(V 4294967296 (y.take i)+bi*w)=g*V 4294967296 (y.take i)+bi*(g*w):=aT
   rw [e7]
   have e8:g*w=4294967296*pq+pr-c:=aA
   rw [e8]
   have e9:V 4294967296 ((z.drop off).take i)=V 4294967296 ((zl.drop off).take i)+(c+β)*bi-g*V 4294967296 (y.take i):=aA
   rw [e9]
   grind
 ·have hi:i=m+2:=by simp at h;omega
  subst hi
  rw [List.take_of_length_le (show y.length<=m+2 by omega),hYY]at hV
  have hxn:nth z (off+(m+2))=xc:=by
   rw [<-n2,<-jA]
   have:=congrArg (fun l=>nth l 0) hD
   simpa [jA]using this
  have hV0:=bV (b:=4294967296) aF ((lz2.drop off).take (m+2))
  have hV1:=sU (b:=4294967296) aF ((lz2.drop off).take (m+2))
  rw [List.length_take,Nat.min_eq_left (by simp;omega)]at hV1
  have hXg:X-g*Y=V 4294967296 ((z.drop off).take (m+2))+4294967296^(m+2)*(xc-c-β):=by
   rw [hX]
   have:(c+β)*4294967296^(m+2)=4294967296^(m+2)*c+4294967296^(m+2)*β:=aT
   rw [Int.mul_sub,Int.mul_sub];omega
  have MT:off+(m+2)<z.length:=aA
  generalize hbn:(4294967296:Int)^(m+2)=bn at *
  have hp4:IntKind.u64.wrap (IntKind.u64.wrap (xc-c)-β)=(xc-c-β)%18446744073709551616:=by rw [mG,mG];omega
  apply (jV)
  simp (disch:=omega) [gw,bS,a3,hxn,hp4]
  apply cO [0,1,5,9,17]
  generalize hss:(xc-c-β)%18446744073709551616=s at *
  have hp5:IntKind.u32.wrap s=s%4294967296:=wrap_u32'
  apply W.sr
  simp (disch:=omega) [gw,bS,a3,hp5,MT]
  apply cO [0,1,5,9,17]
  have al3:(z.set (off+(m+2)) (s%4294967296)).drop off=(z.drop off).set (m+2) (s%4294967296):=pW _ _ _ _
  have asx:(z.set (off+(m+2)) (s%4294967296)).take off=zl.take off:=by rw [jI aA,hP]
  have al4:((z.drop off).set (m+2) (s%4294967296)).drop (m+3)=(zl.drop off).drop (m+3):=by
   rw [List.drop_set_of_lt aA]
   have:=congrArg (List.drop 1) hD
   rw [List.drop_drop,List.drop_drop,List.drop_drop,List.drop_drop]at this
   rw [List.drop_drop,List.drop_drop]
   exact this
  have AG:dH 4294967296 ((z.drop off).set (m+2) (s%4294967296)):=(lz2.drop off).set ⟨aA,aA⟩
  apply W.seq
  rcases Int.lt_or_le (xc-c-β) 0 with ahG | mX
  ·-- one too many
   have al5:s/9223372036854775808=1:=aA
   apply fJ al5 [0,1,5,9,129]
   refine W.cond ⟨_,rfl,fun h=>?_,fun h=>?_⟩
   ·cases h
   apply W.skip
   have aD3:bn*(xc-c-β) = - bn:=by
    rcases Int.lt_or_le (xc-c-β) (-1)with h | h
    ·exfalso
     have:=Int.mul_le_mul_of_nonneg_left (show xc-c-β <= -2 by omega) (show 0<=bn by omega)
     omega
    ·have:xc-c-β = -1:=by omega
     rw [this];omega
   have hsv:s%4294967296=4294967295:=by
    rcases Int.lt_or_le (xc-c-β) (-1)with h | h
    ·exfalso
     have:=Int.mul_le_mul_of_nonneg_left (show xc-c-β <= -2 by omega) (show 0<=bn by omega)
     omega
    ·omega
   rw [aD3]at hXg
   obtain⟨hq1,hq2⟩:=YU.axG hgY aA
   have hgp:0<=g-1:=by rw [hq1];exact Int.ediv_nonneg hX0 aA
   rw [hsv]at al3 asx al4 AG |-
   have ayJ:((z.drop off).set (m+2) 4294967295).take (m+2)=(z.drop off).take (m+2):=jI (Nat.le_refl _)
   rw [<-ayJ]at hXg hV0 hV1
   have ayK:nth ((z.drop off).set (m+2) 4294967295) (m+2)=4294967295:=gP (by simp;omega)
   generalize xF:z.set (off+(m+2)) 4294967295=z2 at *
   have aD4:z2.length=zl.length:=by rw [<-xF];simp [ayF]
   rw [<-al3]at hXg hV0 hV1 ayK AG al4
   have lz3:dH 4294967296 z2:=by rw [<-xF];exact lz2.set ⟨aA,aA⟩
   clear hss hp5 hp4 al5 al3 ayJ hV hxn hD hP AG lz2
   apply cN [0,1,5,9,18]
   apply fJ WN [0,5,9,18,132,133,134]
   apply W.block
   refine W.bB (fun q σ=>∃(i:Nat) (k:Int) (z:List Int) (BP:Pm.Rows),σ=⟨fa [(0, .own id ver off (m+3)),(5,aB ((m:Int)+2)),(9, .int .u64 g),(18, .int .u64 k),(132,us y),(133,aB ((m:Int)+2)),(134,aB i)],BP,clk⟩ ∧
    BP id=some ⟨ver,185,1,emap u32 z⟩∧(∀j,j≠id->BP j=rows j)∧q=m+2-i∧i<=m+2∧z.length=zl.length∧dH 4294967296 z∧z.take off=zl.take off∧(z.drop off).drop i=(z2.drop off).drop i∧(k=0∨k=1) ∧
    V 4294967296 ((z.drop off).take i)+k*4294967296^i=V 4294967296 ((z2.drop off).take i)+V 4294967296 (y.take i)) (m+2) ?_ ?_
   ·exact⟨_,Gh.fr [(0, .own id ver off (m+3)),(5,aB ((m:Int)+2)),(9, .int .u64 g),(18, .int .u64 0),(132,us y),(133,aB ((m:Int)+2)),(134,aB (0:Nat))] aG,0,0,z2,_,rfl,aG,fun j hj=>by simp [hj,hro j hj],aA,aA,aD4,lz3,asx,rfl, .inl rfl,by simp [V]⟩
   rintro q _ ⟨i,k,z,aHi,rfl,bK,ayL,hq,hi,aD5,lz4,hP,hD,hk,hV⟩
   apply cN [0,5,9,18,132,133,134,135]
   refine W.cond ⟨_,rfl,fun h=>?_,fun h=>?_⟩
   ·have hi:i<m+2:=by simp at h;omega
    have hw:=ly.nth (i:=i) aA
    have hVy:=bG (b:=4294967296) (l:=y) (i:=i) aA
    have hVx:=bG (b:=4294967296) (l:=z2.drop off) (i:=i) (by simp;omega)
    have hxn:nth z (off+i)=nth (z2.drop off) i:=by
     rw [<-jA]
     have:=congrArg (fun l=>nth l 0) hD
     simpa [jA]using this
    have hx:=(lz3.drop off).nth (i:=i) (by simp;omega)
    generalize nth (z2.drop off) i=x at *
    generalize hwe:nth y i=w at *
    apply (iE)
    apply qY WN hwe [0,5,9,18,19,20,132,133,134]
    apply qY bK hxn [0,5,9,19,21,132,133,134]
    have hp6:IntKind.u32.wrap (x+w+k)=(x+w+k)%4294967296:=wrap_u32'
    have aD6:off+i<z.length:=aA
    refine W.bY fun K hK=>?_
    apply zD bK hp6 aD6
    refine W.lw [0,5,9,18,132,133,134] hK ?_;clear hK K;simp
    refine W.bY (fun K hK=>?_);simp (disch:=omega) [gw]
    refine hK _ ⟨m+2-(i+1),_,aD _ [0,5,9,18,132,133,134],aA,i+1,(x+w+k)/4294967296,z.set (off+i) ((x+w+k)%4294967296),_,rfl,aG,fun j hj=>by simp [hj,ayL j hj],aA,aA,by simp [aD5],lz4.set ⟨aA,aA⟩,by rw [jI aA,hP],?_,aA,?_⟩
    ·rw [pW,List.drop_set_of_lt aA]
     have:=congrArg (List.drop 1) hD
     rw [List.drop_drop,List.drop_drop,List.drop_drop,List.drop_drop]at this
     rw [List.drop_drop,List.drop_drop]
     exact this
    ·rw [pW,gY (by simp;omega),hVy,hVx,Int.pow_succ]
     have h10:=Int.mul_ediv_add_emod (x+w+k) 4294967296
     generalize (x+w+k)/4294967296=pq at *
     generalize (x+w+k)%4294967296=pr at *
     generalize (4294967296:Int)^i=bi at *
     have e8:pr=x+w+k-4294967296*pq:=aA
     rw [e8]
     have e9:V 4294967296 ((z.drop off).take i)=V 4294967296 ((z2.drop off).take i)+V 4294967296 (y.take i)-k*bi:=aA
     rw [e9]
     grind
   ·have hi:i=m+2:=by simp at h;omega
    subst hi
    rw [List.take_of_length_le (show y.length<=m+2 by omega),hYY,hbn]at hV
    have hxn:nth z (off+(m+2))=4294967295:=by
     rw [<-ayK,<-jA]
     have:=congrArg (fun l=>nth l 0) hD
     simpa [jA]using this
    have YH:=bV (b:=4294967296) aF ((lz4.drop off).take (m+2))
    have hV3:=sU (b:=4294967296) aF ((lz4.drop off).take (m+2))
    rw [List.length_take,Nat.min_eq_left (by simp;omega),hbn]at hV3
    have hk1:k=1:=by
     rcases hk with rfl | rfl
     ·exfalso;omega
     ·rfl
    subst hk1
    have aD7:off+(m+2)<z.length:=aA
    have hwc:IntKind.u32.wrap 4294967296=0:=rfl
    have hwg:IntKind.u32.wrap g=g:=wrap_u32 g0 g1
    apply (jV)
    simp (disch:=omega) [gw,bK,a3,hxn,aD7,hwc]
    apply cO [9]
    apply fJ hwg [4]
    apply W.ret
    refine⟨(z.drop off).set (m+2) 0,by simp [hq1],?_,rfl,by simp;omega,(lz4.drop off).set ⟨aA,aA⟩,?_,?_⟩
    ·have hzz:z.set (off+(m+2)) 0=zl.take off++(z.drop off).set (m+2) 0:=by
      rw [<-pW,<-hP,<-jI (l:=z) (i:=off+(m+2)) (x:=0) (show off<=off+(m+2)by omega),List.take_append_drop]
     rw [hzz]
     funext j
     by_cases hj:j=id
     ·subst hj;simp
     ·simp [hj,ayL j hj,eO]
    ·rw [List.drop_set_of_lt aA,<-al4]
     have:=congrArg (List.drop 1) hD
     rw [List.drop_drop,List.drop_drop,List.drop_drop,List.drop_drop]at this
     rw [List.drop_drop,List.drop_drop]
     exact this
    ·rw [show m+3=(m+2)+1 from rfl,gY (by simp;omega),hbn,<-hq2]
     omega
  ·have al5:s/9223372036854775808=0:=by omega
   have aD9:0<=X-g*Y:=by
    rw [hXg]
    have:=Int.mul_nonneg (show 0<=bn by omega) mX
    omega
   obtain⟨hq1,hq2⟩:=YU.right hgX aD9
   apply fJ al5 [0,1,5,9,129]
   refine W.cond ⟨_,rfl,fun h=>?_,fun h=>?_⟩
   ·have hwg:IntKind.u32.wrap g=g:=wrap_u32 g0 g1
    apply fJ hwg [4]
    apply W.ret
    refine⟨(z.drop off).set (m+2) (s%4294967296),by simp [hq1],?_,rfl,by simp;omega,AG,al4,?_⟩
    ·have hzz:z.set (off+(m+2)) (s%4294967296)=zl.take off++(z.drop off).set (m+2) (s%4294967296):=by
      rw [<-asx,<-al3,List.take_append_drop]
     rw [hzz]
     funext j
     by_cases hj:j=id
     ·subst hj;simp
     ·simp [hj,hro j hj,eO]
    ·rw [show m+3=(m+2)+1 from rfl,gY (by simp;omega),hbn,<-hq2,hXg]
     have:s%4294967296=xc-c-β:=aA
     rw [this]
   ·cases h
theorem ahH{t:Int}(h0:0<t)(h1:t<4294967296):∃s:Nat,s<=31∧(32:Int)-nb t.toNat=s∧2147483648<=t*2^s∧(t+1)*2^s<=4294967296:=by
 have h2:nb t.toNat<=32:=rL.2 aA
 have h3:1<=nb t.toNat:=by
  rcases Nat.eq_zero_or_pos (nb t.toNat)with h | h
  ·have:=rL.1 (Nat.le_of_eq h);omega
  ·exact h
 obtain⟨k,hk⟩:∃k,nb t.toNat=k+1:=⟨nb t.toNat-1,aA⟩
 have h4:t.toNat<2^(k+1):=rL.1 (Nat.le_of_eq hk)
 have h5:2^k<=t.toNat:=by
  rcases Nat.lt_or_ge t.toNat (2^k)with h | h
  ·have:=rL.2 h;omega
  ·exact h
 have e1:(2:Int)^(k+1)*2^(31-k)=4294967296:=by rw [<-Int.pow_add,show k+1+(31-k)=32 by omega];rfl
 have e2:(2:Int)^k*2^(31-k)=2147483648:=by rw [<-Int.pow_add,show k+(31-k)=31 by omega];rfl
 have hp:(0:Int)<2^(31-k):=Int.pow_pos aF
 have q1:((2^k:Nat):Int)=(2:Int)^k:=Int.natCast_pow 2 k
 have q2:((2^(k+1):Nat):Int)=(2:Int)^(k+1):=Int.natCast_pow 2 (k+1)
 refine⟨31-k,aA,aA,?_,?_⟩
 ·have:=Int.mul_le_mul_of_nonneg_right (show (2:Int)^k<=t by omega) (Int.le_of_lt hp)
  omega
 ·have:=Int.mul_le_mul_of_nonneg_right (show t+1<=(2:Int)^(k+1)by omega) (Int.le_of_lt hp)
  omega
theorem adY{y:List Int}(hc:aZ y=y)(h:y ≠ []):nth y (y.length-1)≠0:=by
 intro h0
 have hl:0<y.length:=List.length_pos_iff.2 h
 have e:y=y.take (y.length-1) ++ [0]:=by
  have:=bQ (l:=y) (i:=y.length-1) aA
  rw [h0,show y.length-1+1=y.length by omega,List.take_length]at this
  exact this
 have h1:=mH (y.take (y.length-1))
 rw [<-e,hc]at h1
 have h2:=cL (y.take (y.length-1))
 rw [<-h1,List.length_take]at h2
 omega
theorem ahI:N 0=us []:=rfl
theorem ahJ{X D:List Int}{Y g:Int}(lX:dH 4294967296 X)(lD:dH 4294967296 D)(hYb:Y<4294967296^(m+2))(hY0:0<Y)(zI:i+m+3<=X.length)(hDl:D.length=(X.drop i).length)(hDd:D.drop (m+3)=(X.drop i).drop (m+3))
  (hg:g=V 4294967296 ((X.drop i).take (m+3))/Y) (hDv:V 4294967296 (D.take (m+3))=V 4294967296 ((X.drop i).take (m+3))%Y) (c8:V 4294967296 (X.drop (i+1))<Y) :
  V 4294967296 ((X.take i++D).drop i)<Y∧V 4294967296 (X.take i++D)=V 4294967296 X-4294967296^i*(g*Y):=by
 have hl:(X.take i).length=i:=by simp;omega
 have e1:(X.take i++D).drop i=D:=by rw [List.drop_append,hl,List.drop_of_length_le aA];simp
 have hD3:=nE (b:=4294967296) D (m+3) (by rw [hDl];simp;omega)
 have hX3:=nE (b:=4294967296) (X.drop i) (m+3) (by simp;omega)
 have hXi:=nE (b:=4294967296) X i aA
 have hz:V 4294967296 ((X.drop i).drop (m+3))=0:=by
  have h1:=nE (b:=4294967296) (X.drop (i+1)) (m+2) (by simp;omega)
  have h2:(X.drop (i+1)).drop (m+2)=(X.drop i).drop (m+3):=by
   rw [List.drop_drop,List.drop_drop];congr 1;omega
  have h3:=bV (b:=4294967296) aF ((lX.drop (i+1)).take (m+2))
  have h4:=bV (b:=4294967296) aF ((lX.drop i).drop (m+3))
  rw [h2]at h1
  rcases Int.lt_or_le 0 (V 4294967296 ((X.drop i).drop (m+3)))with h5 | h5
  ·exfalso
   have:=Int.mul_le_mul_of_nonneg_left (show 1<=V 4294967296 ((X.drop i).drop (m+3))by omega) (show 0<=(4294967296:Int)^(m+2)by omega)
   omega
  ·omega
 rw [hDd,hz,Int.mul_zero,Int.add_zero]at hD3
 rw [hz,Int.mul_zero,Int.add_zero]at hX3
 have hm:=Int.emod_lt_of_pos (V 4294967296 ((X.drop i).take (m+3))) hY0
 have hde:=Int.mul_ediv_add_emod (V 4294967296 ((X.drop i).take (m+3))) Y
 rw [<-hg,<-hDv,<-hX3,<-hD3]at hde
 refine⟨by rw [e1,hD3,hDv];exact hm,?_⟩
 rw [eZ,hl,hXi,<-hde]
 grind
theorem UC(a b:List Int)(ha:xG a)(hb:xG b)(h0:V 4294967296 b=0):aC 259 [us a,us b] (.dK [us [],us [],aB 2]):=by
 have hlb:=hb.len
 have YJ:=ha.len
 have hcb:=cL b
 have hy:aZ b = []:=by rw [vQ iT hb.EM];show aV LL (V 4294967296 b).toNat = [];rw [h0];rfl
 apply cG [(0,us a),(1,us b)] Tryz.func259
 apply aQ [0,1]
 apply (tI)
 refine bC (eJ a aA) ?_
 apply (cV)
 refine bC (eJ b aA) ?_
 apply bT [0,1]
 rw [hy]
 apply (nC)
 apply aQ [0,1,18]
 refine W.cond ⟨_,rfl,fun h=>?_,fun h=>?_⟩
 ·apply aQ [4,5,6]
  apply W.ret
  simp [go]
  rfl
 ·cases h
theorem IQ(a b:List Int)(ha:xG a)(hb:xG b)(h0:V 4294967296 b≠0)(YJ:a.length<1099511627774)(hlb:b.length<1099511627774) :
  aC 259 [us a,us b] (.dK [N (V 4294967296 a/V 4294967296 b),N (V 4294967296 a%V 4294967296 b),aB 0]):=by
 have hca:=cL a
 have hcb:=cL b
 have hVa:=dU (b:=4294967296) a
 have hVb:=dU (b:=4294967296) b
 have lx:=fR ha.EM
 have ly:=fR hb.EM
 have cx:=fX a
 have cy:=fX b
 rw [<-hVa,<-hVb]
 rw [<-hVb]at h0
 apply cG [(0,us a),(1,us b)] Tryz.func259
 apply aQ [0,1]
 apply (tI)
 refine bC (eJ a aA) ?_
 apply (cV)
 refine bC (eJ b aA) ?_
 apply bT [0,1]
 have hxl:(aZ a).length<1099511627774:=aA
 have WN:(aZ b).length<1099511627774:=aA
 clear hVa hVb hca hcb
 generalize aZ a=x at *
 generalize aZ b=y at *
 have hyn:y ≠ []:=fun h=>h0 (by rw [h];rfl)
 have hyp:0<y.length:=List.length_pos_iff.2 hyn
 have hY0:0<V 4294967296 y:=by have:=bV (b:=4294967296) aF ly;omega
 have hX0:=bV (b:=4294967296) aF lx
 apply (nC)
 apply aQ [0,1,18]
 refine W.cond ⟨_,rfl,fun h=>?_,fun h=>?_⟩
 ·exfalso;simp at h;exact hyn h
 clear h
 apply aQ [0,1,22]
 refine W.cond ⟨_,rfl,fun h=>?_,fun h=>?_⟩
 ·have h:x.length<y.length:=by simp at h;omega
  have w7:=mJ (b:=4294967296) aF lx ly cy h
  rw [Int.ediv_eq_zero_of_lt hX0 w7,Int.emod_eq_of_lt hX0 w7]
  apply (tI)
  refine bC (qK x aA lx) ?_
  apply bT [4,5,6]
  apply W.ret
  simp [go]
  rfl
 have w7:y.length<=x.length:=by simp at h;omega
 clear h
 apply aQ [0,1,30]
 refine W.cond ⟨_,rfl,fun h=>?_,fun h=>?_⟩
 ·have h:y.length=1:=by simp at h;omega
  obtain⟨w,rfl⟩:∃w,y = [w]:=match y,h with | [w],_=>⟨w,rfl⟩
  have hw:=(dH.cons.1 ly).1
  have hV1:V 4294967296 [w]=w:=rJ
  rw [hV1]at h0 hY0 |-
  have WI:=Int.emod_nonneg (V 4294967296 x) h0
  have MG:=Int.emod_lt_of_pos (V 4294967296 x) hY0
  have lI:=al0 x w aA lx hY0 hw.2
  have lr:dH 4294967296 [V 4294967296 x%w]:=dH.cons.2 ⟨⟨WI,aA⟩,dH.nil⟩
  have qZ:=eJ [V 4294967296 x%w] aG
  rw [BF lr,rJ]at qZ
  have hnw:nth [w] 0=w:=rfl
  generalize V 4294967296 x/w=qq at *
  generalize V 4294967296 x%w=rr at *
  apply oQ hnw lI
  apply bT [7,8]
  exact C7 qZ [4,5,6]
 have hy2:2<=y.length:=by simp at h;omega
 clear h
 obtain⟨m,hm⟩:∃m,y.length=m+2:=⟨y.length-2,aA⟩
 have htn:=adY cy hyn
 rw [show y.length-1=m+1 by omega]at htn
 have htl:=ly.nth (i:=m+1) aA
 obtain⟨s,al6,hsn,sX,hs2⟩:=ahH (t:=nth y (m+1)) aA htl.2
 have hLZ:=ast (nth y (m+1)) htl.1 htl.2
 rw [hsn]at hLZ
 have hp:(0:Int)<2^s:=Int.pow_pos aF
 have ayN:(2:Int)^s<=2147483648:=by
  have:=Int.ofNat_le.2 (Nat.pow_le_pow_right (show 0<2 by decide) al6)
  simpa using this
 have hbm:(0:Int)<4294967296^(m+1):=Int.pow_pos aF
 have asz:=sU (b:=4294967296) aF lx
 have hVy:=nE (b:=4294967296) y (m+1) aA
 have hy1:V 4294967296 (y.drop (m+1))=nth y (m+1):=by rw [gW aA,List.drop_of_length_le aA,rJ]
 rw [hy1]at hVy
 have aEh:=bV (b:=4294967296) aF (ly.take (m+1))
 have hy3:=sU (b:=4294967296) aF (ly.take (m+1))
 rw [List.length_take,Nat.min_eq_left aA]at hy3
 have hyU:V 4294967296 y*2^s<4294967296^(m+2):=by
  have h1:V 4294967296 y<(nth y (m+1)+1)*4294967296^(m+1):=by rw [hVy];grind
  have h2:=Int.mul_lt_mul_of_pos_right h1 hp
  have h3:=Int.mul_le_mul_of_nonneg_right hs2 (Int.le_of_lt hbm)
  have e:(nth y (m+1)+1)*4294967296^(m+1)*2^s=(nth y (m+1)+1)*2^s*4294967296^(m+1):=aT
  rw [show m+2=(m+1)+1 from rfl,Int.pow_succ]
  omega
 have hyL:2147483648*4294967296^(m+1)<=V 4294967296 y*2^s:=by
  have h1:nth y (m+1)*4294967296^(m+1)<=V 4294967296 y:=by rw [hVy,Int.mul_comm];omega
  have h2:=Int.mul_le_mul_of_nonneg_right h1 (Int.le_of_lt hp)
  have h3:=Int.mul_le_mul_of_nonneg_right sX (Int.le_of_lt hbm)
  have e:nth y (m+1)*4294967296^(m+1)*2^s=nth y (m+1)*2^s*4294967296^(m+1):=aT
  omega
 have hxU:V 4294967296 x*2^s<4294967296^(x.length+1):=by
  rw [Int.pow_succ]
  exact Int.lt_of_lt_of_le (Int.mul_lt_mul_of_pos_right asz hp) (Int.mul_le_mul_of_nonneg_left aA (Int.le_of_lt (Int.pow_pos aF)))
 obtain⟨x',hwx,aJu,lx',asA⟩:=UB x s (x.length+1) al6 aA lx aA aA hxU
 obtain⟨y',hwy,ayO,ly',adZ⟩:=UB y s (m+2) al6 aA ly aA aA hyU
 have aEj:2147483648<=nth y' (m+1):=by
  have h1:=nE (b:=4294967296) y' (m+1) aA
  have h2:V 4294967296 (y'.drop (m+1))=nth y' (m+1):=by rw [gW aA,List.drop_of_length_le aA,rJ]
  have h3:=sU (b:=4294967296) aF (ly'.take (m+1))
  rw [List.length_take,Nat.min_eq_left aA]at h3
  rw [h2,adZ]at h1
  rcases Int.lt_or_le (nth y' (m+1)) 2147483648 with h4 | h4
  ·exfalso
   have:=Int.mul_le_mul_of_nonneg_left (show nth y' (m+1)+1<=2147483648 by omega) (Int.le_of_lt hbm)
   rw [Int.mul_add,Int.mul_comm _ 2147483648]at this
   omega
  ·exact h4
 have al7:0<V 4294967296 y':=by rw [adZ];exact Int.mul_pos hY0 hp
 have aEk:V 4294967296 y'<4294967296^(m+2):=by rw [adZ];exact hyU
 have hxm:m+2<=x.length:=aA
 have hqx:V 4294967296 x/V 4294967296 y=V 4294967296 x'/V 4294967296 y':=by rw [asA,adZ,Int.mul_ediv_mul_of_pos_left _ _ hp]
 have hrx:V 4294967296 x%V 4294967296 y=V 4294967296 x'%V 4294967296 y'/2^s:=by
  rw [asA,adZ]
  have e1:=Int.emod_def (V 4294967296 x*2^s) (V 4294967296 y*2^s)
  rw [Int.mul_ediv_mul_of_pos_left _ _ hp]at e1
  have e2:=Int.emod_def (V 4294967296 x) (V 4294967296 y)
  rw [e1,e2]
  have e3:V 4294967296 x*2^s-V 4294967296 y*2^s*(V 4294967296 x/V 4294967296 y)=(V 4294967296 x-V 4294967296 y*(V 4294967296 x/V 4294967296 y))*2^s:=aT
  rw [e3,Int.mul_ediv_cancel _ aA]
 have ayP:V 4294967296 (x'.drop (x.length-m-1))<V 4294967296 y':=by
  have h1:=nE (b:=4294967296) x' (x.length-m-1) aA
  have h2:=bV (b:=4294967296) aF (lx'.take (x.length-m-1))
  rw [asA]at h1
  have h3:V 4294967296 x*2^s<4294967296^(x.length-m-1)*(4294967296^(m+1)*2^s):=by
   rw [<-Int.mul_assoc,<-Int.pow_add,show x.length-m-1+(m+1)=x.length by omega]
   exact Int.mul_lt_mul_of_pos_right asz hp
  have h4:V 4294967296 (x'.drop (x.length-m-1))<4294967296^(m+1)*2^s:=Int.lt_of_mul_lt_mul_left (a:=4294967296^(x.length-m-1)) aA (Int.le_of_lt (Int.pow_pos aF))
  have h5:=Int.mul_le_mul_of_nonneg_left ayN (Int.le_of_lt hbm)
  rw [adZ]
  rw [Int.mul_comm _ 2147483648]at h5
  omega
 rw [hqx,hrx]
 apply W.skip
 have a1:((m:Int)+2-1)=((m+1:Nat):Int):=aA
 apply W.sr
 simp (disch:=omega) [gw,hm,a1]
 apply jW hLZ
 apply cO [0,1,9]
 replace hwx:jZ env.P 270 [us x,aB s,aB ((x.length:Int)+1)] 185 1 (emap u32 x'):=hwx
 replace hwy:jZ env.P 270 [us y,aB s,aB ((m:Int)+2)] 185 1 (emap u32 y'):=hwy
 apply TG hm
 refine ahc hwx 58 aG aG aG ?_
 apply eV hm
 refine ahc hwy 63 aG aG aG ?_
 apply bT [0,9,10,11]
 refine W.freeze 63 aG fun K hK=>?_
 simp
 refine hK _ ?_;clear hK K
 apply W.sr
 simp (disch:=omega) [gw,ayO]
 apply cO [0,9,10,11,12]
 obtain⟨ql,hql⟩:∃ql,x.length=ql+m+1:=⟨x.length-m-1,aA⟩
 rw [show x.length-m-1=ql by omega]at ayP
 have ao3:x'.length=ql+m+2:=aA
 have aq:(x.length:Int)-((m:Int)+2)+1=(ql:Int):=aA
 apply W.sr
 simp (disch:=omega) [gw,aq]
 apply cO [4,9,10,11,12]
 clear hwx hwy hVy hy1 aEh hy3 hyU hyL hxU hqx hrx htn htl sX hs2 hsn hLZ asz hY0 hX0
 apply eE [4,9,10,11,12,13]
 refine W.bB (fun q σ=>∃(v4:Nat) (X Q:List Int),bF σ [(4, .own 71 v4 0 ql),(9,aB s),(10, .own 58 0 0 (ql+m+2)),(11,us y'),(12,aB ((m:Int)+2)),(13,aB ((q:Int)-1))] fun rows clk =>
  rows 58=some ⟨0,185,1,emap u32 X⟩∧rows 71=some ⟨v4,185,1,emap u32 Q⟩∧q<=ql∧X.length=ql+m+2∧Q.length=ql∧dH 4294967296 X∧dH 4294967296 Q ∧
  V 4294967296 X+4294967296^q*V 4294967296 (Q.drop q)*V 4294967296 y'=V 4294967296 x'∧V 4294967296 (X.drop q)<V 4294967296 y') ql ?_ ?_
 ·exact⟨_,Gh.fr [(4, .own 71 _ 0 ql),(9,aB s),(10, .own 58 0 0 (ql+m+2)),(11,us y'),(12,aB ((m:Int)+2)),(13,aB ((ql:Int)-1))] (by simp [ao3];exact rfl),_,x',List.replicate ql 0,_,_,rfl,aG,aG,aA,ao3,aG,lx',dH.rep aF _,by simp [V],ayP⟩
 rintro q _ ⟨v4,X,Q,rows,clk,rfl,al8,asB,hq,hXl,hQl,lX,lQ,hVX,hXU⟩
 apply cQ [4,9,10,11,12,13,76]
 refine W.cond ⟨_,rfl,fun h=>?_,fun h=>?_⟩
 ·have WL:0<q:=by simp at h;omega
  obtain⟨i,rfl⟩:∃i,q=i+1:=⟨q-1,aA⟩
  clear h
  have ei:((i+1:Nat):Int)-1=i:=aA
  rw [ei]
  have ayQ:V 4294967296 ((X.drop i).take (m+3))<4294967296*V 4294967296 y':=by
   have h1:=nE (b:=4294967296) (X.drop i) (m+3) (by simp;omega)
   have h2:=bV (b:=4294967296) aF ((lX.drop i).drop (m+3))
   have h3:=Int.mul_nonneg (show (0:Int)<=4294967296^(m+3)from Int.le_of_lt (Int.pow_pos aF)) h2
   have h4:V 4294967296 (X.drop i)=nth X i+4294967296*V 4294967296 (X.drop (i+1)):=by rw [gW aA];rfl
   have h5:=lX.nth (i:=i) aA
   omega
  have ama:=fun(rows:Pm.Rows) clk hr=>YT (id:=58) (ver:=0) (off:=i) (m:=m) X y' rows clk hr ayO aA ly' aEj lX aA aA ayQ
  have e6:(i:Int)+((m:Int)+2)+1=((i+m+3:Nat):Int):=aA
  have e7:((i:Int)+(m:Int)+3).toNat-i=m+3:=aA
  apply (iE)
  refine W.bY fun K hK=>?_
  simp (disch:=omega) [gw,al8,hXl,e6,e7]
  refine axB (ama _ _ al8) ?_
  rintro r rows' fD ⟨D,rfl,rfl,rfl,hDl,lD,hDd,hDv⟩
  have j2:=ahJ (g:=V 4294967296 ((X.drop i).take (m+3))/V 4294967296 y') lX lD aEk al7 aA hDl hDd rfl hDv hXU
  have hg0:0<=V 4294967296 ((X.drop i).take (m+3))/V 4294967296 y':=Int.ediv_nonneg (bV aF ((lX.drop i).take _)) (Int.le_of_lt al7)
  have hg1:V 4294967296 ((X.drop i).take (m+3))/V 4294967296 y'<4294967296:=Int.ediv_lt_of_lt_mul al7 ayQ
  generalize V 4294967296 ((X.drop i).take (m+3))/V 4294967296 y'=g at *
  have aEm:(X.take i++D).length=ql+m+2:=by simp [hDl];omega
  have lX2:dH 4294967296 (X.take i++D):=dH.append.2 ⟨lX.take i,lD⟩
  obtain⟨aEn,aEo⟩:=j2
  generalize X.take i++D=X2 at *
  apply j1 asB hQl
  refine W.lw [4,9,10,11,12,13] hK ?_;clear hK K;simp
  refine W.bY (fun K hK=>?_);simp (disch:=omega) [gw]
  refine hK _ ⟨i,_,aD _ [4,9,10,11,12,13],aA,v4,X2,Q.set i g,_,_,rfl,aG,aG,aA,aEm,by simp [hQl],lX2,lQ.set ⟨hg0,hg1⟩,?_,aEn⟩
  rw [aEo,gW (l:=Q.set i g) (i:=i) (by simp;omega),gP aA,List.drop_set_of_lt aA,<-hVX]
  simp only [V,Int.pow_succ]
  generalize V 4294967296 (Q.drop (i+1))=vq at *
  grind
 ·have WL:q=0:=by simp at h;omega
  subst WL
  simp only [List.drop_zero,Int.pow_zero,Int.one_mul]at hVX hXU
  have hX0:=bV (b:=4294967296) aF lX
  have hQe:V 4294967296 x'/V 4294967296 y'=V 4294967296 Q:=by
   have e:(V 4294967296 Q+1)*V 4294967296 y'=V 4294967296 Q*V 4294967296 y'+V 4294967296 y':=aT
   rw [Int.ediv_eq_iff_of_pos al7]
   constructor<;>omega
  have hRe:V 4294967296 x'%V 4294967296 y'=V 4294967296 X:=by
   have h3:=Int.emod_def (V 4294967296 x') (V 4294967296 y')
   rw [hQe,Int.mul_comm]at h3
   omega
  have hXt:V 4294967296 (X.take (m+2))=V 4294967296 X:=by
   have h1:=nE (b:=4294967296) X (m+2) aA
   have h2:=bV (b:=4294967296) aF (lX.drop (m+2))
   have h3:=bV (b:=4294967296) aF (lX.take (m+2))
   have h4:(0:Int)<4294967296^(m+2):=Int.pow_pos aF
   rcases Int.lt_or_le 0 (V 4294967296 (X.drop (m+2)))with h5 | h5
   ·exfalso
    have:=Int.mul_le_mul_of_nonneg_left (show 1<=V 4294967296 (X.drop (m+2))by omega) (Int.le_of_lt h4)
    omega
   ·have:V 4294967296 (X.drop (m+2))=0:=by omega
    rw [this]at h1;omega
  rw [hQe,hRe,<-hXt]
  have zQ:=bW hQl
  have zX:=bW hXl
  have qZ:=eJ Q aA
  rw [BF lQ]at qZ
  have aEp:=al1 (X.take (m+2)) s al6 (by simp;omega) (lX.take _)
  apply (gK)
  refine W.freeze 71 (by simp [asB]) fun K hK=>?_
  simp [asB,zQ]
  refine hK _ ?_;clear hK K
  refine W.freeze 58 (by simp [al8]) fun K hK=>?_
  simp [al8,zX]
  refine hK _ ?_;clear hK K
  have e8:((m:Int)+2).toNat=m+2:=aA
  apply W.sd
  apply kZ qZ
  simp (disch:=omega) [gw,hXl,e8]
  apply jW aEp
  exact pJ [4,5,6]
theorem PG(hB:0<B)(hA:0<=A):(A%B=0->(-A)/B = -(A/B)∧(-A)%B=0)∧(0<A%B->(-A)/B = -(A/B+1)∧(-A)%B=B-A%B):=by
 have h1:=Int.mul_ediv_add_emod A B
 have h2:=Int.emod_lt_of_pos A hB
 constructor
 ·intro h
  refine(Int.ediv_emod_unique hB).2 ⟨?_,aA,aA⟩
  rw [Int.mul_neg];omega
 ·intro h
  refine(Int.ediv_emod_unique hB).2 ⟨?_,aA,aA⟩
  rw [Int.mul_neg,Int.mul_add];omega
theorem ahK(n m:Bool)(hB:0<B)(hA:0<=A) :
  (¬(n=true∧0<A%B)->(if n=true then -A else A)/(if m=true then -B else B)=(if (n != m)=true then -(A/B)else A/B)∧(if n=true then -A else A)%(if m=true then -B else B)=A%B) ∧
  (n=true->0<A%B->(if n=true then -A else A)/(if m=true then -B else B)=(if (n != m)=true then -(A/B+1)else A/B+1)∧(if n=true then -A else A)%(if m=true then -B else B)=B-A%B):=by
 obtain⟨p1,p2⟩:=PG hB hA
 have h0:=Int.emod_nonneg A (show B≠0 by omega)
 cases n<;>cases m<;>simp [Int.ediv_neg,Int.emod_neg]
 ·exact⟨fun h=>by have:=p1 aA;exact⟨this.1,aA⟩,p2⟩
 ·exact⟨fun h=>by have:=p1 aA;exact⟨aA,aA⟩,fun h=>by have:=p2 h;exact⟨aA,this.2⟩⟩
theorem ahL(n:Bool)(l:List Int)(h:xG l):aC 143 [IV n l] (I (V 4294967296 l)):=by
 apply cG [(0,IV n l)] Tryz.func143
 apply aQ [1,2]
 apply nB (qK l h.len h.EM)
 apply (cV)
 refine bC (i7 _ (uO h) false) ?_
 exact gI [2]
theorem ahM(n:Bool)(l:List Int):aC 258 [IV n l] (aB (if l.length=0 then 0 else if n=true then -1 else 1)):=by
 apply cG [(0,IV n l)] Tryz.func258
 apply aQ [1]
 apply (nC)
 apply aQ [1,3]
 refine W.cond ⟨_,rfl,fun h=>?_,fun h=>?_⟩
 ·have h:l = []:=by simp at h;exact h
  subst h
  exact eY [2]
 ·have h:l.length≠0:=by simp at h;simpa using h
  rw [if_neg h]
  apply aQ [8]
  refine W.cond ⟨_,rfl,fun h=>?_,fun h=>?_⟩
  ·subst h
   exact eY [2]
  ·subst h
   apply W.skip
   exact eY [2]
theorem amb(p:RP)(hp:p.length<9223372036854775808):aC 83 [Pg p] (aB ((p.length:Int)-1)):=by
 apply cG [(0,Pg p)] Tryz.func83
 apply fK [0] [2]
 exact j8
theorem UD(p:RP)(h:x6 p):aC 145 [Pg p] (I (lead (pV p))):=by
 have hl:=h.len
 have gS:=cL (p.map gv)
 rw [List.length_map]at gS
 apply cG [(0,Pg p)] Tryz.func145
 apply cN [0,2]
 apply cK (kT p h) [0,2]
 rw [show aZ (p.map gv)=pV p from rfl]at gS |-
 generalize pV p=x at *
 apply aQ [0,2,7]
 refine W.cond ⟨_,rfl,fun h=>?_,fun h=>?_⟩
 ·have h:x = []:=by simp at h;exact h
  subst h
  apply aQ [2]
  apply W.ret
  simp [go]
  exact⟨Int.le_refl 0,rfl⟩
 ·have h:x ≠ []:=by simp at h;exact h
  have sB:0<x.length:=List.length_pos_iff.2 h
  apply W.skip
  have e1:((x.length:Int)-1).toNat=x.length-1:=aA
  apply W.sr
  simp (disch:=omega) [gw,e1]
  apply cO [2]
  apply W.ret
  simp [go,lead]
theorem UE{x:Int}(h0:0<=x)(h:x<4294967296^k):sz LL x<=k:=dZ iT (by
 have e:((4294967296^k:Nat):Int)=(4294967296:Int)^k:=Int.natCast_pow 4294967296 k
 show x.natAbs<4294967296^k
 omega)
theorem abv{x:Int}(h0:0<=x)(h:sz LL x<=k)(hk:k<1099511627776):xG (aV LL x.toNat):=⟨gZ iT _,by
 have e:x.natAbs=x.toNat:=aA
 unfold sz at h
 rw [e]at h
 omega⟩
theorem ahN{x:Int}(h0:0<=x):V 4294967296 (aV LL x.toNat)=x:=by
 have:=nD iT x.toNat
 rw [show((LL:Nat):Int)=4294967296 from rfl]at this
 rw [this];omega
theorem amc{x:Int}(h0:0<=x):(0<(aV LL x.toNat).length)↔0<x:=by
 rw [List.length_pos_iff,Ne,gC iT];omega
theorem UF(n m:Bool)(l k:List Int)(GW:xG l)(h':xG k)(hl:l.length<1099511627774)(hk:k.length<1099511627774) :
  aC 260 [IV n l,IV m k] (if V 4294967296 k=0 then .dK [I 0,I 0,aB 2]else .dK [I (iv n l/iv m k),I (iv n l%iv m k),aB 0]):=by
 have p1:=uO GW
 have p2:=uO h'
 apply cG [(0,IV n l),(1,IV m k)] Tryz.func260
 apply aQ [2,3,4,5]
 by_cases h0:V 4294967296 k=0
 ·rw [if_pos h0]
  apply cK (UC l k GW h' h0) [2,3,4,5,6,7,8]
  apply cQ [2,3,4,5,6,7,8,19]
  refine W.cond ⟨_,rfl,fun h=>?_,fun h=>?_⟩
  ·apply aQ [4,5,6]
   apply W.ret
   simp [go]
   rfl
  ·cases h
 ·rw [if_neg h0]
  have hB:0<V 4294967296 k:=aA
  have hdm:=IQ l k GW h' h0 hl hk
  obtain⟨d1,d2⟩:=ahK n m hB p1
  rw [show(if n=true then -V 4294967296 l else V 4294967296 l)=iv n l from rfl,show(if m=true then -V 4294967296 k else V 4294967296 k)=iv m k from rfl]at d1 d2
  have q0:=Int.ediv_nonneg p1 p2
  have r0:=Int.emod_nonneg (V 4294967296 l) h0
  have r1:=Int.emod_lt_of_pos (V 4294967296 l) hB
  have rE:sz LL (V 4294967296 l/V 4294967296 k)<=l.length:=UE q0 (Int.lt_of_le_of_lt (Int.ediv_le_self _ p1) (sU aF GW.EM))
  have aEq:sz LL (V 4294967296 l%V 4294967296 k)<=k.length:=UE r0 (Int.lt_trans r1 (sU aF h'.EM))
  apply cK hdm [2,3,4,5,6,7,8]
  generalize V 4294967296 l/V 4294967296 k=Q at *
  generalize V 4294967296 l%V 4294967296 k=R at *
  apply cQ [2,3,4,5,6,7,8,19]
  refine W.cond ⟨_,rfl,fun h=>?_,fun h=>?_⟩
  ·cases h
  apply W.skip
  apply n7 (i7 Q q0 (n != m)) (i7 R r0 false)
  apply bT [2,3,4,5,7,8]
  refine W.iS (fun σ=>bF σ [(4, .ptr 4 2 0 0),(5, .ptr 5 3 0 0)] fun rows clk=>rows 4=some ⟨2,38,2,[ie (iv n l/iv m k)]⟩∧rows 5=some ⟨3,38,2,[ie (iv n l%iv m k)]⟩) ?_ ?_
  ·
   by_cases asC:n=true∧0<R
   ·obtain⟨rfl,hR⟩:=asC
    obtain⟨e1,e2⟩:=d2 rfl hR
    rw [e1,e2]
    have hdp:=(amc r0).2 hR
    have hQl:=abv q0 rE GW.len
    have hRl:=abv r0 aEq h'.len
    have ayR:=abi (aV LL Q.toNat) [1] hQl.len aG hQl.EM (dH.cons.2 ⟨aF,dH.nil⟩)
    rw [ahN q0,rJ]at ayR
    have ayS:=O6 k (aV LL R.toNat) h'.len hRl.len h'.EM hRl.EM
    rw [ahN r0,YI,if_neg aA]at ayS
    refine W.fI (fun σ=>bF σ [(2, .ptr 2 0 0 0),(3, .ptr 3 1 0 0),(4, .ptr 4 2 0 0),(5, .ptr 5 3 0 0),(7,N Q),(8,N R),(38, .bool true)] fun rows clk=>rows 2=some ⟨0,38,2,[[.bool true,us l]]⟩∧rows 3=some ⟨1,38,2,[[.bool m,us k]]⟩∧rows 4=some ⟨2,38,2,[ie (if true=m then Q else -Q)]⟩∧rows 5=some ⟨3,38,2,[ie R]⟩) (fun K hK=>?_) ?_
    ·apply eV hdp
     exact hK _ _ (aD _ [2,3,4,5,7,8,38]) ⟨_,_,rfl,aG,aG,aG,aG⟩
    rintro _ ⟨rows,clk,rfl,bS,bK,dW,dX⟩
    refine W.cond ⟨_,rfl,fun h=>?_,fun h=>?_⟩
    ·apply cK ayR [2,3,4,5,7,8]
     apply oQ bK ayS
     apply bT [2,3,4,5,7,8]
     refine W.bY fun K hK=>?_
     apply j1 bS bK
     refine bC (i7 (Q+1) aA (!m)) ?_
     apply (cV)
     refine bC (i7 (V 4294967296 k-R) aA false) ?_
     apply j1 dW dX
     exact hK _ ⟨_,aD _ [4,5],_,_,rfl,by cases m<;>simp,aG⟩
    ·cases h
   ·obtain⟨e1,e2⟩:=d1 asC
    rw [e1,e2]
    refine W.fI (fun σ=>bF σ [(4, .ptr 4 2 0 0),(5, .ptr 5 3 0 0),(38, .bool false)] fun rows clk=>rows 4=some ⟨2,38,2,[ie (if (n != m)=true then -Q else Q)]⟩∧rows 5=some ⟨3,38,2,[ie R]⟩) (fun K hK=>?_) ?_
    ·cases n with
     | false =>
      apply (cV)
      exact hK _ _ (aD _ [4,5,38]) ⟨_,_,rfl,by cases m<;>simp,aG⟩
     | true =>
      have hR:R=0:=by simp at asC;omega
      subst hR
      apply (cV)
      exact hK _ _ (aD _ [4,5,38]) ⟨_,_,rfl,by cases m<;>simp,aG⟩
    rintro _ ⟨rows,clk,rfl,dW,dX⟩
    refine W.cond ⟨_,rfl,fun h=>?_,fun h=>?_⟩
    ·cases h
    ·apply W.skip
     exact⟨_,aD _ [4,5],_,_,rfl,dW,dX⟩
  rintro _ ⟨rows,clk,rfl,dW,dX⟩
  generalize iv n l/iv m k=q at *
  generalize iv n l%iv m k=r at *
  apply W.sd
  apply j1 dW dX
  refine aY cT ?_
  apply j1 dW dX
  rw [if_pos cT]
  apply j1 dW dX
  refine aY cT ?_
  exact gI [4,5,6]
theorem YV(n m:Bool)(l k:List Int)(h:xG l)(h':xG k)(hl:l.length<1099511627774)(hk:k.length<1099511627774)(h0:V 4294967296 k≠0) :
  aC 234 [IV n l,IV m k] (if iv n l%iv m k=0 then .dK [I (iv n l/iv m k),aB 0]else .dK [I 0,aB 3]):=by
 have hdm:=UF n m l k h h' hl hk
 rw [if_neg h0]at hdm
 have qW:0<=iv n l%iv m k:=Int.emod_nonneg _ (by unfold iv;split<;>omega)
 generalize iv n l/iv m k=q at *
 generalize iv n l%iv m k=r at *
 have hrn:(aV LL r.natAbs = [])↔r=0:=by rw [gC iT];omega
 apply cG [(0,IV n l),(1,IV m k)] Tryz.func234
 apply gJ [2,3,4] hdm [4,6,7,8]
 apply cQ [4,6,7,8,17]
 refine W.cond ⟨_,rfl,fun h=>?_,fun h=>?_⟩
 ·cases h
 apply (pK)
 apply aQ [4,6,23]
 by_cases hr:r=0
 ·rw [if_pos hr]
  refine W.cond ⟨_,rfl,fun h=>?_,fun h=>?_⟩
  ·exfalso;have h2:=hrn.2 hr;rw [h2]at h;simp at h
  ·apply W.skip
   exact eY [4,5]
 ·rw [if_neg hr]
  refine W.cond ⟨_,rfl,fun h=>?_,fun h=>?_⟩
  ·apply aQ [4,5]
   apply W.ret
   simp [go]
   rfl
  ·exfalso;simp at h;exact hr (hrn.1 h)
def bX(l:List Int):Nat:=l.foldl (fun g c=>Nat.gcd g c.natAbs) 0
theorem gcd_one:∀l:List Int,l.foldl (fun g c=>Nat.gcd g c.natAbs) 1=1
 | []=>rfl
 | c::l=>by simp only [List.foldl_cons,Nat.gcd_one_left];exact gcd_one l
theorem YW(l:List Int)(i:Nat)(h:bX (l.take i)=1):bX l=1:=by
 unfold bX at *
 rw [<-List.take_append_drop i l,List.foldl_append,h]
 exact gcd_one _
theorem ad1(l:List Int)(i:Nat)(h:i<l.length):bX (l.take (i+1))=Nat.gcd (bX (l.take i)) (nth l i).natAbs:=by
 unfold bX
 rw [bQ h,List.foldl_append];rfl
theorem ayT(x:Nat):N (x:Int)=us (aV LL x):=rfl
theorem IU{x:Nat}(h:x<4294967296^k):(aV LL x).length<=k:=FV iT h
theorem UG(p:RP)(K0:Nat)(hK0:K0<1099511627774)(hp:∀c∈p,dH 4294967296 c.2∧c.2.length<=K0)(R4:p.length<1099511627776):aC 233 [Pg p] (I (bX (p.map gv))):=by
 have hng:∀c∈p,(gv c).natAbs=(V 4294967296 c.2).toNat:=fun c hc=>by
  have:=bV (b:=4294967296) aF (hp c hc).1
  unfold gv iv;split<;>omega
 apply cG [(0,Pg p)] Tryz.func233
 apply fK [0,2] [0,2,3]
 refine W.TF 3 (us []) aG rfl fun K hK=>?_
 refine W.lw [0,2,3] hK ?_;clear hK K;simp
 have aEr:∀i,i<p.length->(nth (p.map gv) i).natAbs=(V 4294967296 (nth p i).2).toNat:=fun i hi=>by rw [zG];exact hng _ (bO hi)
 refine W.iS (fun σ=>bF σ [(2, .ptr 2 0 0 0),(3,us (aV LL (bX (p.map gv))))] fun rows clk=>rows 2=some ⟨0,38,2,[[.bool false, .nil]]⟩∧bX (p.map gv)<4294967296^K0) ?_ ?_
 ·
  apply aQ [2,3,10,11,12]
  apply W.block
  refine W.bB (fun q σ=>∃(i:Nat),bF σ [(2, .ptr 2 0 0 0),(3,us (aV LL (bX ((p.map gv).take i)))),(10,Pg p),(11,aB p.length),(12,aB i)] fun rows clk=>rows 2=some ⟨0,38,2,[[.bool false, .nil]]⟩∧q=p.length-i∧i<=p.length∧bX ((p.map gv).take i)<4294967296^K0) p.length ?_ ?_
  ·exact⟨_,Gh.fr [(2, .ptr 2 0 0 0),(3,us (aV LL (bX ((p.map gv).take 0)))),(10,Pg p),(11,aB p.length),(12,aB (0:Nat))] (by simp [bX,oS]),0,_,_,rfl,aG,aA,aA,by simp [bX];exact Nat.pow_pos aF⟩
  rintro q _ ⟨i,rows,clk,rfl,bS,hq,hi,RQ⟩
  apply cN [2,3,10,11,12,13]
  refine W.cond ⟨_,rfl,fun h=>?_,fun h=>?_⟩
  ·have hi:i<p.length:=by simp at h;omega
   obtain⟨AE,hc2⟩:=hp _ (bO hi)
   have hV0:=bV (b:=4294967296) aF AE
   have hVl:=sU (b:=4294967296) aF AE
   obtain⟨x0,sB⟩:=Int.eq_ofNat_of_zero_le hV0
   have UH:=qK (nth p i).2 aA AE
   rw [sB,ayT]at UH
   have hxb:x0<4294967296^K0:=by
    have e:((4294967296^(nth p i).2.length:Nat):Int)=(4294967296:Int)^(nth p i).2.length:=Int.natCast_pow 4294967296 _
    have e2:4294967296^(nth p i).2.length<=4294967296^K0:=Nat.pow_le_pow_right aF hc2
    omega
   have hgs:=ad1 (p.map gv) i (by simpa using hi)
   rw [aEr i hi,sB]at hgs
   simp only [Int.toNat_natCast]at hgs
   apply (iE)
   apply fJ bS [2,3,5,10,11,12]
   apply cK UH [2,3,6,10,11,12]
   apply (nC)
   refine W.bB (fun q σ=>∃(g x:Nat),bF σ [(2, .ptr 2 0 0 0),(3,us (aV LL g)),(6,us (aV LL x)),(10,Pg p),(11,aB p.length),(12,aB i)] fun rows clk=>rows 2=some ⟨0,38,2,[[.bool false, .nil]]⟩∧q=x∧Nat.gcd g x=bX ((p.map gv).take (i+1))∧g<4294967296^K0∧x<4294967296^K0) x0 ?_ ?_
   ·exact⟨_, .refl,bX ((p.map gv).take i),x0,_,_,rfl,by simp [bS],rfl,hgs.symm,RQ,hxb⟩
   rintro q2 _ ⟨g,x,rows,clk,rfl,bS,hq2,hgx,hg,hx⟩
   apply cQ [2,3,6,10,11,12,21]
   refine W.cond ⟨_,rfl,fun h=>?_,fun h=>?_⟩
   ·have h1:aV LL x ≠ []:=by simp at h;exact List.length_pos_iff.1 h
    have sB:x≠0:=fun h2=>h1 ((gC iT).2 h2)
    have hlg:=IU hg
    have hlx:=IU hx
    have hdm:=IQ (aV LL g) (aV LL x) ⟨gZ iT _,aA⟩ ⟨gZ iT _,aA⟩ (by rw [show(4294967296:Int)=((LL:Nat):Int)from rfl,nD iT];omega) aA aA
    rw [show(4294967296:Int)=((LL:Nat):Int)from rfl,nD iT,nD iT,<-Int.natCast_emod,ayT]at hdm
    have hm:=Nat.mod_lt g (show 0<x by omega)
    have hgr:Nat.gcd x (g%x)=Nat.gcd g x:=by rw [Nat.gcd_comm x,<-Nat.gcd_rec,Nat.gcd_comm]
    apply (uV)
    apply cK hdm [2,6,8,10,11,12]
    refine W.bY (fun K hK=>?_);simp (disch:=omega) [gw]
    refine hK _ ⟨g%x,_,aD _ [2,3,6,10,11,12],aA,x,g%x,_,_,rfl,by simp [bS],rfl,by rw [hgr,hgx],hx,aA⟩
   ·have h1:aV LL x = []:=by simp at h;exact h
    have sB:x=0:=(gC iT).1 h1
    subst sB
    rw [Nat.gcd_zero_right]at hgx
    apply (gK)
    refine W.fI (fun σ=>∃(b:Bool),bF σ [(2, .ptr 2 0 0 0),(3,us (aV LL g)),(10,Pg p),(11,aB p.length),(12,aB i),(39, .bool b)] fun rows clk=>rows 2=some ⟨0,38,2,[[.bool false, .nil]]⟩∧(b=true->g=1)) (fun K hK=>?_) ?_
    ·by_cases h2:(aV LL g).length=1
     ·obtain⟨w,hw⟩:∃w,aV LL g = [w]:=match aV LL g,h2 with | [w],_=>⟨w,rfl⟩
      have hgv:=nD iT g
      rw [hw,rJ]at hgv
      rw [hw]at hK |-
      have hnw:nth [w] 0=w:=rfl
      apply eV hnw
      exact hK _ _ (aD _ [2,3,10,11,12,39]) ⟨_,_,_,rfl,by simp [bS],fun h3=>by simp at h3;omega⟩
     ·have h2':((aV LL g).length:Int)≠1:=by omega
      have hb:(((aV LL g).length:Int)==1)=false:=by simpa using h2'
      apply j1 hb h2
      exact hK _ _ (aD _ [2,3,10,11,12,39]) ⟨_,_,_,rfl,by simp [bS],fun h3=>by cases h3⟩
    rintro _ ⟨b,rows,clk,rfl,bS,hb⟩
    refine W.cond ⟨_,rfl,fun h=>?_,fun h=>?_⟩
    ·have hg1:=hb h
     subst hg1
     have zA:=YW _ _ hgx.symm
     apply (gK)
     rw [zA]
     exact⟨_,aD _ [2,3],rows,clk,rfl,bS,by rw [zA]at *;exact hg⟩
    ·apply W.skip
     subst hgx
     refine W.bY (fun K hK=>?_);simp (disch:=omega) [gw]
     refine hK _ ⟨p.length-(i+1),_,aD _ [2,3,10,11,12],aA,i+1,_,_,rfl,by simp [bS],aA,aA,hg⟩
  ·have hi:i=p.length:=by simp at h;omega
   rw [List.take_of_length_le (by simp;omega)]at RQ |-
   apply (gK)
   exact⟨_,aD _ [2,3],rows,clk,rfl,bS,RQ⟩
 rintro _ ⟨rows,clk,rfl,bS,RQ⟩
 have hlg:=IU RQ
 have UH:=qK (aV LL (bX (p.map gv))) aA (gZ iT _)
 rw [show(4294967296:Int)=((LL:Nat):Int)from rfl,nD iT]at UH
 have ayW:=i7 (bX (p.map gv):Int) aA false
 apply n7 UH ayW
 exact FM bS [2]
structure PD(x:List Int):Prop where
 sz:∀v∈x,sz LL v<1099511627774
 len:x.length<1099511627774
theorem PD.of{n:Nat}(h:Bd LL s n x)(hs:s<1099511627774)(hn:n<1099511627774):PD x:=⟨fun v hv=>Nat.lt_of_le_of_lt (h.sz v hv) hs,Nat.lt_of_le_of_lt h.len hn⟩
theorem YX(v:Int):V 4294967296 (aV LL v.natAbs)=v.natAbs:=nD iT v.natAbs
theorem PH{v:Int}(hv:sz LL v<1099511627774)(hc:sz LL c<1099511627774)(h0:c≠0):aC 234 [I v,I c] (if v%c=0 then .dK [I (v/c),aB 0]else .dK [I 0,aB 3]):=by
 have:=YV (decide (v<0)) (decide (c<0)) (aV LL v.natAbs) (aV LL c.natAbs) ⟨gZ iT _,by unfold sz at hv;omega⟩ ⟨gZ iT _,by unfold sz at hc;omega⟩ hv hc (by rw [YX];omega)
 rwa [DE,DE]at this
def tT(c v:Int):Int:=if v%c=0 then v/c else 0
theorem UI(x:List Int)(c:Int)(hx:PD x)(hc:sz LL c<1099511627774)(h0:c≠0):aC 214 [Po x,I c] (Po (aZ (x.map (tT c)))):=by
 have hxl:=hx.len
 apply cG [(0,Po x),(1,I c)] Tryz.func214
 apply fK [0,3] [0,3,5]
 refine W.row (id:=10) (emap ie (List.replicate x.length 0)) (by simp;exact⟨rfl,rfl,rfl⟩) (vY _) ?_
 apply eE [3,5,11,12,13]
 refine W.bB (fun q σ=>∃(i:Nat) (z:List Int) (v10:Nat),bF σ [(3, .ptr 3 0 0 0),(5, .own 10 v10 0 x.length),(11,Po x),(12,aB x.length),(13,aB i)] fun rows clk =>
  rows 3=some ⟨0,38,2,[ie c]⟩∧rows 10=some ⟨v10,38,2,emap ie z⟩∧q=x.length-i∧i<=x.length∧z.length=x.length∧z.take i=(x.take i).map (tT c)) x.length ?_ ?_
 ·exact⟨_, .refl,0,List.replicate x.length 0,_,_,_,rfl,aG,aG,aA,aA,aG,aG⟩
 rintro q _ ⟨i,z,v10,rows,clk,rfl,bK,tU,hq,hi,hz,hv⟩
 apply cN [3,5,11,12,13,14]
 refine W.cond ⟨_,rfl,fun h=>?_,fun h=>?_⟩
 ·have hi:i<x.length:=by simp at h;omega
  have hE:=PH (hx.sz _ (bO hi)) hc h0
  have hE2:aC 234 [I (nth x i),I c] (.dK [I (tT c (nth x i)),aB (if nth x i%c=0 then 0 else 3)]):=by
   unfold tT
   split at hE
   ·rename_i h1;rw [if_pos h1,if_pos h1];exact hE
   ·rename_i h1;rw [if_neg h1,if_neg h1];exact hE
  have hts:(x.take (i+1)).map (tT c)=(x.take i).map (tT c) ++ [tT c (nth x i)]:=by rw [bQ hi];simp
  generalize (if nth x i%c=0 then(0:Int)else 3)=er at *
  generalize tT c (nth x i)=ev at *
  generalize hxe:nth x i=xi at *
  apply (iE)
  apply fJ hxe [3,5,6,7,11,12,13]
  refine W.bY fun K hK=>?_
  apply j0 bK hE2
  apply j1 tU hz
  refine W.lw [3,5,11,12,13] hK ?_;clear hK K;simp
  refine W.bY (fun K hK=>?_);simp (disch:=omega) [gw]
  refine hK _ ⟨x.length-(i+1),_,aD _ [3,5,11,12,13],aA,i+1,z.set i ev,v10,_,_,rfl,by simp [bK],aG,aA,aA,by simp [hz],?_⟩
  rw [oT hv aA,hts]
 ·have hi:i=x.length:=by simp at h;omega
  subst hi
  rw [bW hz,List.take_length]at hv
  have xF:=bW hz
  apply (gK)
  have hzb:PB z:=by
   rw [hv]
   refine⟨fun v hv=>?_,by simpa using by omega⟩
   simp only [List.mem_map]at hv
   obtain⟨w,hw,rfl⟩:=hv
   have h1:=hx.sz w hw
   show sz LL (tT c w)<1099511627776
   refine Nat.lt_of_le_of_lt (dN iT (y:=w) ?_) aA
   unfold tT;split
   ·exact Int.natAbs_ediv_le_natAbs _ _
   ·simp
  have hN:=fG hzb
  rw [hv]at hN tU xF
  generalize x.map (tT c)=y at *
  have WN:y.length=x.length:=by rw [<-hv];exact hz
  apply qE tU xF hN
  exact gI [4]
theorem UJ(l:List RP)(K0:Nat)(hK0:K0<1099511627774)(hp:∀p∈l,∀c∈p,dH 4294967296 c.2∧c.2.length<=K0)(hl:l.length<1099511627776)(hf:l.flatten.length<1099511627776) :
  aC 213 [aJ pe l] (I (bX (l.flatten.map gv))):=by
 apply cG [(0,aJ pe l)] Tryz.func213
 apply fK [0,2] [0,2,3]
 refine W.nil 3 3 38 2 aG aF fun K hK=>?_
 refine W.lw [0,2,3] hK ?_;clear hK K;simp
 apply eE [2,3,6,7,8]
 refine W.bB (fun q σ=>∃(i v3:Nat) (A:RP),bF σ [(2, .ptr 2 0 0 0),(3, .own 3 v3 0 A.length),(6,aJ pe l),(7,aB l.length),(8,aB i)] fun rows clk =>
  rows 2=some ⟨0,38,2,[[.bool false, .nil]]⟩∧rows 3=some ⟨v3,38,2,emap ge A⟩∧q=l.length-i∧i<=l.length∧A=(l.take i).flatten) l.length ?_ ?_
 ·exact⟨_, .refl,0,_,[],_,_,rfl,aG,by simp [emap],aA,aA,aG⟩
 rintro q _ ⟨i,v3,A,rows,clk,rfl,bS,bK,hq,hi,hA⟩
 apply cN [2,3,6,7,8,9]
 refine W.cond ⟨_,rfl,fun h=>?_,fun h=>?_⟩
 ·have hi:i<l.length:=by simp at h;omega
  have hfs:(l.take (i+1)).flatten=(l.take i).flatten++nth l i:=by rw [bQ hi];simp
  have LR:(l.take (i+1)).flatten.length<=l.flatten.length:=by
   have e:=List.take_append_drop (i+1) l
   have e2:l.flatten=(l.take (i+1)).flatten++(l.drop (i+1)).flatten:=by rw [<-List.flatten_append,e]
   rw [e2,List.length_append];omega
  have J9:(l.take i).flatten.length+(nth l i).length<1099511627776:=by
   rw [hfs,List.length_append]at LR;omega
  have hls:(l.take (i+1)).flatten.length=(l.take i).flatten.length+(nth l i).length:=by rw [hfs,List.length_append]
  rw [<-hA]at hfs J9 hls
  generalize hpe:nth l i=p at *
  apply (iE)
  apply fJ hpe [2,3,5,6,7,8]
  refine W.bY fun K hK=>?_
  apply eV bK
  refine W.lw [2,3,6,7,8] hK ?_;clear hK K;simp
  refine W.bY (fun K hK=>?_);simp (disch:=omega) [gw]
  refine hK _ ⟨l.length-(i+1),_,Gh.fr [(2, .ptr 2 0 0 0),(3, .own 3 _ 0 (A++p).length),(6,aJ pe l),(7,aB l.length),(8,aB ((i+1:Nat):Int))] (by simp;exact rfl),aA,i+1,_,A++p,_,_,rfl,by simp [bS],aG,aA,aA,hfs.symm⟩
 ·have hi:i=l.length:=by simp at h;omega
  subst hi
  rw [List.take_length]at hA
  have hG:=UG l.flatten K0 hK0 (fun c hc=>by
   obtain⟨p,R4,GY⟩:=List.mem_flatten.1 hc
   exact hp p R4 c GY) hf
  rw [<-hA]at hG |-
  generalize (bX (A.map gv):Int)=g at *
  apply (jV)
  apply j0 bK hG
  exact FM bS [2]
theorem oB(hx:PB x)(hc:Cn x):aC 145 [Po x] (I (lead x)):=by
 have:=UD (x.map xZ) hx.K4
 rw [show pV (x.map xZ)=aZ x by simp only [pV,cZ],show aZ x=x from hc,<-lM]at this
 exact this
theorem nM(x:List Int)(hx:x.length<9223372036854775808):aC 83 [Po x] (aB ((x.length:Int)-1)):=by
 have:=amb (x.map xZ) (by simpa using hx)
 rw [List.length_map,<-lM]at this
 exact this
theorem ER(hx:PB x)(hc:Sz c):aC 181 [Po x,I c] (Po (bJ x c)):=by
 have:=YK (x.map xZ) hx.K4 (decide (c<0)) (aV LL c.natAbs) hc.lok
 rw [cZ,DE,<-lM]at this
 exact this
theorem wD(i:Nat)(x:Int):(List.replicate (i+1) (0:Int)).set i x=uX i x:=by
 rw [List.replicate_succ',List.set_append]
 simp [uX]
theorem YZ(a b:RP){N:Nat}(ha:x6 a)(hb:x6 b)(sa:Bd LL s N (a.map gv))(sb:Bd LL s' N (b.map gv))(hB:s+N*(s'+N+1)+s'+N+N+10<1099511627774) :
  aC 215 [Pg a,Pg b] (if pV b = []then .dK [Po [],Po [],aB 0,aB 2]else .dK [Po (EL (pV a) (pV b)).1,Po (EL (pV a) (pV b)).2,aB (mA (pV a) (pV b)),aB 0]):=by
 have hA:Bd LL s N (pV a):=sa.cut
 have hBb:Bd LL s' N (pV b):=sb.cut
 have ca:Cn (pV a):=Cn.cut _
 have cb:Cn (pV b):=Cn.cut _
 have na:=kT a ha
 have nb:=kT b hb
 rw [show aZ (a.map gv)=pV a from rfl]at na
 rw [show aZ (b.map gv)=pV b from rfl]at nb
 apply cG [(0,Pg a),(1,Pg b)] Tryz.func215
 generalize pV a=x at *
 generalize pV b=y at *
 apply aQ [0,1,4]
 refine W.TF 4 (Po []) aG rfl fun K hK=>?_
 refine W.lw [0,1,4] hK ?_;clear hK K;simp
 apply n7 na nb
 apply bT [1,4,5]
 apply cQ [1,4,5,18]
 refine W.cond ⟨_,rfl,fun h=>?_,fun h=>?_⟩
 ·have h:y = []:=by simp at h;exact h
  rw [if_pos h]
  apply aQ [4,5,6,7]
  apply W.ret
  simp [go]
  rfl
 have hy:y ≠ []:=by simp at h;exact h
 clear h
 rw [if_neg hy]
 have YL:0<y.length:=List.length_pos_iff.2 hy
 have hNx:=hA.len
 have hNy:=hBb.len
 have hsy:=iX hBb
 have hmN:N*(s'+N+1)>=0:=Nat.zero_le _
 have hL:=oB (PB.of hBb aA aA) cb
 have hDx:=nM x aA
 have hDy:=nM y aA
 apply W.skip
 apply cK hL [1,4,5,8]
 have hkk:(if (0:Int)<(x.length:Int)-1-((y.length:Int)-1)+1 then(x.length:Int)-1-((y.length:Int)-1)+1 else 0)=(mA x y:Int):=by unfold mA;split<;>omega
 apply n7 hDx hDy
 apply sS hkk [1,4,5,6,8]
 have hkN:mA x y<=N:=by unfold mA;omega
 have AZ:=hsy
 generalize hdd:s'+N+1=d at *
 have hNN:∀j,j<=N->(N-j)*d<=N*d:=fun j _=>Nat.mul_le_mul_right _ aA
 apply eE [1,4,5,6,8,9]
 refine W.bB (fun j σ=>∃(q r:List Int),bF σ [(1,Po y),(4,Po q),(5,Po r),(6,aB (mA x y)),(8, .ptr 8 0 0 0),(9,aB ((j:Int)-1))] fun rows clk =>
  rows 8=some ⟨0,38,2,[ie (lead y)]⟩∧j<=mA x y∧ps y (lead y) j q r=EL x y∧Bd LL (s+(N-j)*d) (N+N) q∧Bd LL (s+(N-j)*d) (N+N) r∧Cn r) (mA x y) ?_ ?_
 ·exact⟨_, .refl,[],x,_,_,rfl,aG,aA,rfl,⟨aG,fun c hc=>by cases hc⟩,hA.mono aA aA,ca⟩
 rintro j _ ⟨q,r,rows,clk,rfl,uZ,hj,ES,bq,br,cr⟩
 apply cQ [1,4,5,6,8,9,31]
 refine W.cond ⟨_,rfl,fun h=>?_,fun h=>?_⟩
 ·have hj0:0<j:=by simp at h;omega
  obtain⟨i,rfl⟩:∃i,j=i+1:=⟨j-1,aA⟩
  clear h
  have ei:((i+1:Nat):Int)-1=i:=aA
  rw [ei]
  have hN1:=hNN (i+1) aA
  have hT:s+(N-i)*d=s+(N-(i+1))*d+s'+N+1:=by
   rw [show N-i=(N-(i+1))+1 by omega,Nat.add_mul,Nat.one_mul];omega
  obtain⟨b1,b2⟩:=HX iT hBb bq br (show i<N by omega)
  rw [<-hT]at b1 b2
  have K5:=hNN i aA
  have hx:=ag7 (y:=y) (i:=i) br
  have bs:=Bd.uX hx i
  have hLr:=oB (PB.of br aA aA) cr
  have hDr:=nM r (by have:=br.len;omega)
  have bqs:=bq.bJ iT hsy
  have brs:=br.bJ iT hsy
  have bm:=bs.cB iT hBb
  have f1:=ER (c:=lead y) (PB.of bq aA aA) (show sz LL (lead y)<1099511627776 by omega)
  have f2:=ER (c:=lead y) (PB.of br aA aA) (show sz LL (lead y)<1099511627776 by omega)
  have f3:=adQ (PB.of bqs aA aA) (PB.of bs aA aA)
  have f4:=DF bs hBb aA
  have f5:=MR (PB.of brs aA aA) (PB.of bm aA aA)
  rw [show kC (bJ q (lead y)) (uX i (BB y r i))=psq (lead y) (BB y r i) i q from rfl]at f3
  rw [show iB (bJ r (lead y)) (cB (uX i (BB y r i)) y)=CR y (lead y) (BB y r i) i r from rfl]at f5
  have cr2:Cn (CR y (lead y) (BB y r i) i r):=Cn.iB _ _
  have hpx:BB y r i=if r.length=y.length+i then lead r else 0:=rfl
  rw [ps]at ES
  generalize hq2:psq (lead y) (BB y r i) i q=q2 at *
  generalize bS:CR y (lead y) (BB y r i) i r=r2 at *
  generalize cB (uX i (BB y r i)) y=pm at *
  generalize bJ q (lead y)=pq at *
  generalize bJ r (lead y)=pr at *
  generalize BB y r i=xx at *
  have ahP:=wD i xx
  have asE:(uX i xx).length=i+1:=by simp [uX]
  generalize lead r=lr at *
  generalize lead y=ly at *
  apply oR [1,4,5,6,8,9,10]
  refine W.row (id:=10) (els:=[[.bool false, .nil]]) [ie 0] (by simp;exact⟨rfl,rfl,rfl⟩) ⟨⟨.inl aG, .inr ⟨rfl,rfl⟩,trivial⟩,trivial⟩ ?_
  refine W.iS (fun σ=>∃(v10:Nat),bF σ [(1,Po y),(4,Po q),(5,Po r),(6,aB (mA x y)),(8, .ptr 8 0 0 0),(9,aB i),(10, .ptr 10 v10 0 0)] fun rows clk=>rows 8=some ⟨0,38,2,[ie ly]⟩∧rows 10=some ⟨v10,38,2,[ie xx]⟩) ?_ ?_
  ·
   apply n7 hDr hDy
   apply bT [1,4,5,6,8,9,10,40]
   by_cases hrl:r.length=y.length+i
   ·rw [if_pos hrl]at hpx
    subst hpx
    refine W.cond ⟨_,rfl,fun h=>?_,fun h=>?_⟩
    ·refine W.bY fun K hK=>?_
     apply o9 hLr
     exact hK _ ⟨_,aD _ [1,4,5,6,8,9,10],_,_,_,rfl,by simp [uZ],aG⟩
    ·exfalso;simp at h;omega
   ·rw [if_neg hrl]at hpx
    subst hpx
    refine W.cond ⟨_,rfl,fun h=>?_,fun h=>?_⟩
    ·exfalso;simp at h;omega
    ·apply W.skip
     exact⟨_,aD _ [1,4,5,6,8,9,10],_,_,_,rfl,by simp [uZ],aG⟩
  rintro _ ⟨v10,rows,clk,rfl,uZ,tU⟩
  have e9:((i:Int)+1).toNat=i+1:=aA
  apply W.sr
  simp (disch:=omega) [gw,e9]
  apply cO [1,4,5,6,8,9,10,11]
  refine W.row (id:=45) (emap ie (List.replicate (i+1) 0)) (by simp;exact⟨rfl,rfl,rfl⟩) (vY _) ?_
  apply qY tU ahP [1,4,5,6,8,9,11]
  have j2:=bW asE
  refine W.freeze 45 aG fun K hK=>?_
  simp [j2]
  refine hK _ ?_;clear hK K
  apply oQ uZ f1
  apply kZ f3
  apply bT [1,4,5,6,8,9,11]
  refine W.bY fun K hK=>?_
  apply j0 uZ f2
  apply fV f4 f5
  apply (cV)
  refine W.lw [1,4,5,6,8,9] hK ?_;clear hK K;simp
  refine W.bY (fun K hK=>?_);simp (disch:=omega) [gw]
  refine hK _ ⟨i,_,aD _ [1,4,5,6,8,9],aA,q2,r2,_,_,rfl,by simp [uZ],aA,ES,b1,b2,cr2⟩
 ·have hj0:j=0:=by simp at h;omega
  subst hj0
  simp only [ps]at ES
  rw [<-ES]
  exact uW [4,5,6,7]
def mS(x:List Int):List Int:=aZ (x.map (tT (bX x)))
def UK(a b:List Int):List Int:=if mA a b%2=1∧lead b<0 then mS (jP (EL a b).2)else mS (EL a b).2
theorem kF(x:List Int):∀c∈x,((bX x:Nat):Int)∣c:=by
 have key:∀(l:List Int) (g:Nat),(∀c∈l,((l.foldl (fun g c=>Nat.gcd g c.natAbs) g:Nat):Int)∣c)∧l.foldl (fun g c=>Nat.gcd g c.natAbs) g∣g:=by
  intro l
  induction l with
  | nil=>intro g;exact⟨fun c hc=>(by cases hc),Nat.dvd_refl _⟩
  | cons c l ih =>
   intro g
   obtain⟨h1,h2⟩:=ih (Nat.gcd g c.natAbs)
   simp only [List.foldl_cons]
   refine⟨fun d hd=>?_,Nat.dvd_trans h2 (Nat.gcd_dvd_left _ _)⟩
   rcases List.mem_cons.1 hd with rfl | hd
   ·exact Int.ofNat_dvd_left.2 (Nat.dvd_trans h2 (Nat.gcd_dvd_right _ _))
   ·exact h1 d hd
 exact(key x 0).1
theorem UL(hc:c∈x)(h:c≠0):bX x≠0:=by
 intro h0
 have:=kF x c hc
 rw [h0]at this
 obtain⟨k,hk⟩:=this
 simp at hk
 exact h hk
theorem dB(hc:Cn x)(h:x ≠ []):bX x≠0:=by
 have hl:0<x.length:=List.length_pos_iff.2 h
 exact UL (c:=lead x) (bO aA) (dO hc hl)
theorem aby(hx:∀c∈x,sz LL c<=s)(hc:Cn x)(h:x ≠ []):sz LL (bX x:Int)<=s:=by
 have hl:0<x.length:=List.length_pos_iff.2 h
 have hm:lead x∈x:=bO aA
 refine Nat.le_trans (dN iT ?_) (hx _ hm)
 have:=Int.le_of_dvd (a:=(bX x:Int)) (b:=((lead x).natAbs:Int)) (by have:=dO hc hl;omega) (Int.dvd_natAbs.2 (kF x _ hm))
 omega
theorem BQ(x:List Int)(hx:PD x):aC 213 [.sl [[Po x]]] (I (bX x)):=by
 have hl:=hx.len
 have:=UJ [x.map xZ] 1099511627773 aF (fun p hp c hc=>by
  simp only [List.mem_singleton]at hp
  subst hp
  simp only [List.mem_map]at hc
  obtain⟨v,hv,rfl⟩:=hc
  have h1:=hx.sz v hv
  exact⟨gZ iT _,by unfold sz at h1;show(aV LL v.natAbs).length<=_;omega⟩) aG (by simp;omega)
 have e:([x.map xZ].flatten.map gv)=x:=by simp only [List.flatten_cons,List.flatten_nil,List.append_nil,cZ]
 rw [e]at this
 have e2:aJ pe [x.map xZ] = .sl [[Po x]]:=by rw [lM];rfl
 rw [e2]at this
 exact this
theorem UM(a b:RP){N:Nat}(ha:x6 a)(hb:x6 b)(sa:Bd LL s N (a.map gv))(sb:Bd LL s' N (b.map gv))(hB:s+N*(s'+N+1)+s'+N+N+10<1099511627774) :
  aC 138 [Pg a,Pg b] (if pV b = []then .dK [Po [],aB 2]else .dK [Po (UK (pV a) (pV b)),aB 0]):=by
 have hP:=YZ a b ha hb sa sb hB
 have hL:=UD b hb
 have hA:Bd LL s N (pV a):=sa.cut
 have hBb:Bd LL s' N (pV b):=sb.cut
 have ca:Cn (pV a):=Cn.cut _
 apply cG [(0,Pg a),(1,Pg b)] Tryz.func138
 generalize pV a=x at *
 generalize pV b=y at *
 apply aQ [0,1]
 by_cases hy:y = []
 ·rw [if_pos hy]at hP |-
  apply cK hP [1,7,8,9]
  apply cQ [1,7,8,9,19]
  refine W.cond ⟨_,rfl,fun h=>?_,fun h=>?_⟩
  ·apply aQ [4,5]
   apply W.ret
   simp [go]
   rfl
  ·cases h
 rw [if_neg hy]at hP |-
 have YL:0<y.length:=List.length_pos_iff.2 hy
 have hkN:mA x y<=N:=by unfold mA;have:=hA.len;omega
 obtain⟨_,C4⟩:=ag8 iT hBb (mA x y) s [] x hkN ⟨aG,fun c hc=>by cases hc⟩ (hA.mono aA aA)
 obtain⟨_,cr⟩:=HY (b:=y) ca
 rw [show(ps y (lead y) (mA x y) [] x)=EL x y from rfl]at C4
 have hmul:=Nat.mul_le_mul_right (s'+N+1) hkN
 have ahG:=MS (PB.of C4 aA aA)
 apply cK hP [1,7,8,9]
 apply cQ [1,7,8,9,19]
 refine W.cond ⟨_,rfl,fun h=>?_,fun h=>?_⟩
 ·cases h
 apply W.skip
 obtain⟨r2,bS⟩:∃r2,r2=if mA x y%2=1∧lead y<0 then jP (EL x y).2 else(EL x y).2:=⟨_,rfl⟩
 have ay0:UK x y=mS r2:=by rw [bS,UK];split<;>rfl
 have hbr:PD r2:=by
  rw [bS];split
  ·exact PD.of C4.jP aA aA
  ·exact PD.of C4 aA aA
 have hcr:Cn r2:=by
  rw [bS];split
  ·exact Cn.jP _
  ·exact cr
 rw [ay0]
 refine W.iS (fun σ=>∃(rows:Pm.Rows) (clk:Nat),σ=⟨fa [(7,Po r2)],rows,clk⟩) ?_ ?_
 ·
  by_cases hk:mA x y%2=1
  ·refine W.fI (fun σ=>∃(rows:Pm.Rows) (clk:Nat),σ=⟨fa [(7,Po (EL x y).2),(28, .bool (decide (lead y<0)))],rows,clk⟩) (fun K hK=>?_) ?_
   ·have CN:(mA x y:Int)%2=1:=by omega
    apply O1 CN hL
    exact hK _ _ (aD _ [7,28]) ⟨_,_,rfl⟩
   rintro _ ⟨rows,clk,rfl⟩
   refine W.agY (lead y<0) rfl (fun h=>?_) (fun h=>?_)
   ·rw [if_pos ⟨hk,h⟩]at bS
    subst bS
    refine W.bY fun K hK=>?_
    apply o9 ahG
    exact hK _ ⟨_,aD _ [7],_,_,rfl⟩
   ·rw [if_neg (fun h2=>h h2.2)]at bS
    subst bS
    apply W.skip
    exact⟨_,aD _ [7],_,_,rfl⟩
  ·rw [if_neg (fun h2=>hk h2.1)]at bS
   subst bS
   refine W.fI (fun σ=>∃(rows:Pm.Rows) (clk:Nat),σ=⟨fa [(7,Po (EL x y).2),(28, .bool false)],rows,clk⟩) (fun K hK=>?_) ?_
   ·have CN:((mA x y:Int)%2==1)=false:=by simp;omega
    apply eV CN
    exact hK _ _ (aD _ [7,28]) ⟨_,_,rfl⟩
   rintro _ ⟨rows,clk,rfl⟩
   refine W.cond ⟨_,rfl,fun h=>?_,fun h=>?_⟩
   ·cases h
   ·apply W.skip
    exact⟨_,aD _ [7],_,_,rfl⟩
 rintro _ ⟨rows,clk,rfl⟩
 clear bS ay0
 apply cQ [7,33]
 refine W.cond ⟨_,rfl,fun h=>?_,fun h=>?_⟩
 ·have h:r2 = []:=by simp at h;exact h
  subst h
  apply aQ [4,5]
  apply W.ret
  simp [go]
  rfl
 ·have h:r2 ≠ []:=by simp at h;exact h
  have hC:=BQ r2 hbr
  have hgp:=dB hcr h
  have hO:=UI r2 (bX r2) hbr (Nat.lt_of_le_of_lt (aby (s:=1099511627773) (fun c hc=>by have:=hbr.sz c hc;omega) hcr h) aF) aA
  rw [show aZ (r2.map (tT (bX r2)))=mS r2 from rfl]at hO
  generalize (bX r2:Int)=g at *
  generalize mS r2=pr at *
  apply W.skip
  apply n7 hC hO
  exact gI [4,5]
end Go.Proofs.YtiobceocpabjdaaGreat
