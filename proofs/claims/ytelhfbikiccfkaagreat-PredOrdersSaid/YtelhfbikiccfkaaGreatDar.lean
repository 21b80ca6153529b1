import Derived.Test.YtelhfbikiccfkaaGreatDal
import Derived.Test.YtelhfbikiccfkaaGreatDaq
set_option linter.unusedSimpArgs false
set_option linter.unusedVariables false
namespace Pm
theorem pR(a b:Nat):(2:Rat)^(a+b)=2^a*2^b:=by
 induction b with
 | zero=>rw [Nat.add_zero,Rat.pow_zero,Rat.mul_one]
 | succ b ih=>rw [←Nat.add_assoc,Rat.pow_succ,Rat.pow_succ,ih];grind
theorem fA(a:Nat):(0:Rat)<2^a:=Rat.pow_pos (by decide)
theorem rP:∀a:Nat,(1:Rat)≤2^a
 | 0=>by simp
 | a+1=>by
  have:=rP a
  rw [Rat.pow_succ];grind
theorem FW{a b:Nat}(h:a≤b):(2:Rat)^a≤2^b:=by
 obtain⟨c,rfl⟩:∃c,b=a+c:=⟨b-a,by omega⟩
 rw [pR]
 have h1:=rP c
 have h2:=fA a
 have h3:=Rat.mul_le_mul_of_nonneg_left h1 (Rat.le_of_lt h2)
 grind
theorem MG:∀a:Nat,(((2^a:Nat):Int):Rat)=2^a
 | 0=>by simp
 | a+1=>by
  rw [Nat.pow_succ,Rat.pow_succ,←MG a,Int.natCast_mul,Rat.intCast_mul];rfl
theorem JD{c:Int}{s:Nat}(h:c.natAbs≤2^s):Ab (c:Rat) (2^s):=by
 have h1:=MG s
 have h2:c≤((2^s:Nat):Int):=by omega
 have h3 : -((2^s:Nat):Int)≤c:=by omega
 have h4:=Rat.intCast_le_intCast.2 h2
 have h5:=Rat.intCast_le_intCast.2 h3
 rw [Rat.intCast_neg]at h5
 rw [h1]at h4 h5
 exact⟨h5,h4⟩
theorem VS(s β:Nat):∀k,zK (2^s) (2^β) k=2^(s+k*(β+2))
 | 0=>by simp [zK]
 | k+1=>by
  rw [zK,VS s β k,show s+(k+1)*(β+2)=s+k*(β+2)+β+1+1 by rw [Nat.add_mul];omega,Rat.pow_succ,Rat.pow_succ,pR _ β]
  grind
namespace ZX
theorem avI{a:ZX}{s n β:Nat}(h:∀c∈a.l,c.natAbs≤2^s)(hN:N a≤n){t:Rat}(ht:Ab t (2^β)):Ab (e t a) (2^(s+n*(β+2))):=by
 have h1:=Y3 (S:=2^s) (B:=2^β) (t:=t) (Rat.le_of_lt (fA s)) (rP β) ht a.l fun c hc=>JD (h c hc)
 rw [VS]at h1
 refine h1.mono (FW ?_)
 have:a.l.length*(β+2)≤n*(β+2):=Nat.mul_le_mul_right _ hN
 omega
theorem afF{a:ZX}{s n β:Nat}(h:∀c∈a.l,c.natAbs≤2^s)(hN:N a≤n){r t:Rat}(hr:Ab r (2^β))(ht:Ab t (2^β)):Ab (dd r t a.l) (2^(s+n*(β+2)))∧Ab (cc r t a.l) (2^(s+n*(β+2))):=by
 have h1:=I6 (S:=2^s) (B:=2^β) (s:=r) (t:=t) (Rat.le_of_lt (fA s)) (rP β) hr ht a.l fun c hc=>JD (h c hc)
 have h2:=Y4 (S:=2^s) (B:=2^β) (s:=r) (t:=t) (Rat.le_of_lt (fA s)) (rP β) hr ht a.l fun c hc=>JD (h c hc)
 rw [VS]at h1 h2
 have h3:a.l.length*(β+2)≤n*(β+2):=Nat.mul_le_mul_right _ hN
 exact⟨h1.mono (FW (by omega)),h2.mono (FW (by omega))⟩
def sk(s n l β:Nat):Nat:=n*(s+2+l)+n*(β+2)+1
def sx(a b:ZX)(s r l:Nat):Nat:=(l+2)*(N a+N b)+s*N b+r*N a
theorem avJ{a b:ZX}{s r l β:Nat}(ha:a≠0)(hb:b≠0)(hA:∀c∈a.l,c.natAbs≤2^s)(hB:∀c∈b.l,c.natAbs≤2^r)(hl:N a+N b≤2^l)(hc:∀d,dv d a→dv d b→N d≤1)
  {t ε η:Rat} (ht:Ab t (2^β)) (hε:ε*2^(sx a b s r l-s+N b*(β+2)+1)≤1) (hη:η*2^(sx a b s r l-r+N a*(β+2)+1)≤1):lK ε (e t a)∨lK η (e t b):=by
 obtain⟨u,v,c,zY,he,hNu,hNv,hu,hv⟩:=apD ha hb hA hB hl hc (Nat.le_refl _)
 have h1:=avI (β:=β) hu hNu ht
 have h2:=avI (β:=β) hv hNv ht
 have h3:e t u*e t a+e t v*e t b=(c:Rat):=by rw [←sC,←sC,←alO,he,CN]
 have h4:=u5 zY
 rw [show(l+2)*(N a+N b)+s*N b+r*N a=sx a b s r l from rfl]at h1 h2
 rw [pR _ 1]at hε hη
 have hM:=fA (sx a b s r l-s+N b*(β+2))
 have hM2:=fA (sx a b s r l-r+N a*(β+2))
 generalize (2:Rat)^(sx a b s r l-s+N b*(β+2))=M at *
 generalize (2:Rat)^(sx a b s r l-r+N a*(β+2))=M2 at *
 refine Classical.byContradiction fun AO=>?_
 have e1:(2:Rat)^1=2:=by rw [Rat.pow_succ,Rat.pow_zero];grind
 rw [e1]at hε hη
 have key:∀x y E M:Rat,0<M→Ab y M→E*(M*2)≤1→¬lK E x → ∃δ:Rat,δ<1/2∧Ab (y*x) δ:=fun x y E M hM hy hE hx=>by
  have g1:=LZ hx
  obtain⟨m,g2,g3,g4⟩:∃m:Rat,m<E∧x≤m ∧ -x≤m:=by
   by_cases h:x ≤ -x
   ·exact⟨-x,by grind,h,Rat.le_refl⟩
   ·exact⟨x,by grind,Rat.le_refl,by grind⟩
  have g5:=hy.mul (show Ab x m from⟨by grind,g3⟩)
  refine⟨_,?_,g5⟩
  have g6:=Rat.mul_lt_mul_of_pos_left g2 hM
  grind
 obtain⟨d1,p1,p2,p3⟩:=key _ _ _ _ hM h1 hε fun h=>AO (.inl h)
 obtain⟨d2,p4,p5,p6⟩:=key _ _ _ _ hM2 h2 hη fun h=>AO (.inr h)
 rcases h4 with h4 | h4<;>grind
theorem afG{a b:ZX}{s n l β m:Nat}(hn:N a+N b≤n)(hm:m≤n):sx a b s s l-s+m*(β+2)+1≤sk s n l β:=by
 unfold sx sk
 have h1:(l+2)*(N a+N b)+s*N b+s*N a=(s+2+l)*(N a+N b):=by grind
 have h2:(s+2+l)*(N a+N b)≤(s+2+l)*n:=Nat.mul_le_mul_left _ hn
 have h3:m*(β+2)≤n*(β+2):=Nat.mul_le_mul_right _ hm
 rw [h1,Nat.mul_comm n]
 omega
theorem FX{ε:Rat}{i j:Nat}(h:ε*2^j≤1)(hij:i≤j):ε*2^i≤1:=by
 have h1:=FW hij
 have h2:=fA i
 by_cases h0:0≤ε
 ·have:=Rat.mul_le_mul_of_nonneg_left h1 h0;grind
 ·have:=Rat.mul_lt_mul_of_pos_right (show ε<0 by grind) h2;grind
theorem sep{a b:ZX}{s n l β:Nat}(ha:a≠0)(hb:b≠0)(hA:∀c∈a.l,c.natAbs≤2^s)(hB:∀c∈b.l,c.natAbs≤2^s)(hn:N a+N b≤n)(hl:n≤2^l)(hc:∀d,dv d a→dv d b→N d≤1)
  {t ε:Rat} (ht:Ab t (2^β)) (hε:ε*2^sk s n l β≤1):lK ε (e t a)∨lK ε (e t b):=
 avJ (l:=l) ha hb hA hB (by omega) hc ht (FX hε (afG hn (by omega))) (FX hε (afG hn (by omega)))
theorem apE{f:ZX}{s n l:Nat}(h:∀c∈f.l,c.natAbs≤2^s)(hN:N f≤n)(hl:n≤2^l):∀c∈(b9 f).l,c.natAbs≤2^(s+l):=fun c hc=>by
 have h1:=oA _ _ hc
 simp only [AD,List.mem_map,List.mem_range]at h1
 obtain⟨i,hi,rfl⟩:=h1
 rw [Int.natAbs_mul,Nat.pow_add]
 have h2:=VR h (i+1)
 have h3:N f=f.l.length:=rfl
 exact Nat.mul_le_mul h2 (by rw [Int.natAbs_natCast];omega)
theorem ajt{x y z:Rat}(h:(x<y∧y<z)∨(y<x∧z<y)):(if x≠0∧cH z≠cH x then 1 else 0:Nat)=(if x≠0∧cH y≠cH x then 1 else 0)+(if y≠0∧cH z≠cH y then 1 else 0):=by
 rcases cP x with ⟨h1,h2⟩ | ⟨h1,h2⟩ | ⟨h1,h2⟩<;>rcases cP y with ⟨h3,h4⟩ | ⟨h3,h4⟩ | ⟨h3,h4⟩<;>rcases cP z with ⟨h5,h6⟩ | ⟨h5,h6⟩ | ⟨h5,h6⟩ <;>
  rw [h2,h4,h6]<;>first
   | (exfalso;rcases h with ⟨h7,h8⟩ | ⟨h7,h8⟩<;>grind)
   | (have n1:(x≠0)=True:=eq_true (by grind)
      have n2:(y≠0)=True:=eq_true (by grind)
      simp only [n1,n2];decide)
   | (have n1:(x≠0)=False:=eq_false (by grind)
      have n2:(y≠0)=True:=eq_true (by grind)
      simp only [n1,n2];decide)
   | (have n1:(x≠0)=True:=eq_true (by grind)
      have n2:(y≠0)=False:=eq_false (by grind)
      simp only [n1,n2];decide)
def FY(f:ZX)(t:Rat):Int:=if e t f=0 then cH (e t (b9 f))else cH (e t f)
theorem afH{x y:Rat}{σ:Int}(h:(σ=1∧x<y)∨(σ = -1∧y<x)):(if y=0 then σ else cH y)=(if (if x≠0∧cH y≠cH x then 1 else 0:Nat)=0 then 1 else -1)*(if x=0 then σ else cH x):=by
 rcases cP x with ⟨h1,h2⟩ | ⟨h1,h2⟩ | ⟨h1,h2⟩<;>rcases cP y with ⟨h3,h4⟩ | ⟨h3,h4⟩ | ⟨h3,h4⟩<;>rw [h2,h4]<;>first
   | (exfalso;rcases h with ⟨h7,h8⟩ | ⟨h7,h8⟩<;>grind)
   | (have n1:(x=0)=False:=eq_false (by grind)
      have n2:(y=0)=False:=eq_false (by grind)
      simp only [n1,n2,ne_eq,not_false_eq_true,true_and,if_false];decide)
   | (have n1:(x=0)=True:=eq_true (by grind)
      have n2:(y=0)=False:=eq_false (by grind)
      have:σ=1∨σ = -1:=by omega
      rcases this with rfl | rfl<;>first
        | (simp only [n1,n2,ne_eq,not_true_eq_false,false_and,if_false,if_true];decide)
        | (exfalso;rcases h with ⟨h7,h8⟩ | ⟨h7,h8⟩<;>grind))
   | (have n1:(x=0)=False:=eq_false (by grind)
      have n2:(y=0)=True:=eq_true (by grind)
      have:σ=1∨σ = -1:=by omega
      rcases this with rfl | rfl<;>first
        | (simp only [n1,n2,ne_eq,not_false_eq_true,true_and,if_false,if_true];decide)
        | (exfalso;rcases h with ⟨h7,h8⟩ | ⟨h7,h8⟩<;>grind))
structure aAU(f:ZX)(B δ:Rat):Prop where
 par:∀s t,Ab s B→Ab t B→s<t→t-s≤δ→FY f t=(if ind f s t=0 then 1 else -1)*FY f s
def lk(s n l β:Nat):Nat:=sk (s+l) (n+n) (l+1) β+(s+l+n*(β+2))+2
theorem u7{L:List ZX}{f:ZX}(G:CP L f){s n l β:Nat}(hf:f≠0)(hA:∀c∈f.l,c.natAbs≤2^s)(hn:N f≤n)(hl:n≤2^l)(hc:∀d,dv d f→dv d (b9 f)→N d≤1){δ:Rat}(hδ:δ*2^lk s n l β≤1):Lcl L f (2^β) δ∧aAU f (2^β) δ:=by
 have hA':∀c∈f.l,c.natAbs≤2^(s+l):=fun c hc=>Nat.le_trans (hA c hc) (Nat.pow_le_pow_right (by decide) (by omega))
 have hD:=apE hA hn hl
 have hND:=nG f
 have main:∀lo hi,Ab lo (2^β)→Ab hi (2^β)→lo<hi→hi-lo≤δ→vt L lo=vt L hi+ind f lo hi∧(e lo f=0→e hi f≠0)∧FY f hi=(if ind f lo hi=0 then 1 else -1)*FY f lo:=fun lo hi alo ahi hlh hw=>by
  have hδ0:0<δ:=by grind
  rw [lk,pR,pR]at hδ
  have hQ:=fA (s+l+n*(β+2))
  have hK:=fA (sk (s+l) (n+n) (l+1) β)
  generalize hQe:(2:Rat)^(s+l+n*(β+2))=Q at *
  generalize hKe:(2:Rat)^sk (s+l) (n+n) (l+1) β=κ at *
  have h22:(2:Rat)^2=4:=by rw [Rat.pow_succ,Rat.pow_succ,Rat.pow_zero];grind
  rw [h22]at hδ
  have hε:(1/κ)*κ=1:=Rat.div_mul_cancel (Rat.ne_of_gt hK)
  have hε0:0<1/κ:=(Rat.lt_div_iff hK).2 (by grind)
  generalize 1/κ=ε at *
  have hδQ:4*(δ*Q)≤ε:=by
   have h1:δ*(κ*Q*4)=(4*(δ*Q))*κ:=by grind
   rw [h1,←hε]at hδ
   exact Rat.le_of_mul_le_mul_right hδ hK
  have hin:∀x,lo≤x→x≤hi→Ab x (2^β):=fun x h1 h2=>cL alo ahi h1 h2
  by_cases XQ:b9 f=0
  ·-- a constant
   have hN1:N f=1:=by
    have h0:=ZX.aI.1 hf
    rcases Nat.lt_or_ge (N f) 2 with h1 | h1
    ·omega
    ·exact absurd XQ (FG h1)
   obtain⟨c,zY,rfl⟩:=lC hN1
   have hcv:∀x,cH (e x (K c))=cH (c:Rat):=fun x=>by rw [CN]
   have h1:=G.const hlh (σ:=cH (c:Rat)) (.inr (hcv lo)) (fun x _ _=>hcv x)
   have h2:ind (K c) lo hi=0:=if_neg fun h=>h.2 (by rw [hcv,hcv])
   have avL:(c:Rat)≠0:=fun h=>zY (by exact_mod_cast h)
   have hz:∀x,e x (K c)≠0:=fun x=>by rw [CN];exact avL
   exact⟨by rw [h1,h2];omega,fun h=>by rw [CN]at h;exact absurd h avL,by rw [h2,if_pos rfl,Int.one_mul,FY,FY,if_neg (hz _),if_neg (hz _),hcv,hcv]⟩
  have hb:=sep hf XQ hA' hD (show N f+N (b9 f)≤n+n by omega) (show n+n≤2^(l+1)by rw [Nat.pow_succ];omega) hc alo (ε:=ε) (by rw [hKe,hε];exact Rat.le_refl)
  have dsz:∀x y,lo≤x→x≤hi→lo≤y→y≤hi→Ab (dd x y f.l) Q∧Ab (cc x y f.l) Q∧Ab (dd x y (b9 f).l) Q:=fun x y h1 h2 h3 h4=>by
   have g1:=afF hA' hn (hin x h1 h2) (hin y h3 h4)
   have g2:=afF hD (show N (b9 f)≤n by omega) (hin x h1 h2) (hin y h3 h4)
   rw [hQe]at g1 g2
   exact⟨g1.1,g1.2,g2.1⟩
  have aDR:0≤δ*Q:=Rat.mul_nonneg (Rat.le_of_lt hδ0) (Rat.le_of_lt hQ)
  have small:∀h x,0≤h→h≤δ→Ab x Q→Ab (h*x) (δ*Q):=fun h x h1 h2 h3=>Ab.mul ⟨by grind,h2⟩ h3
  rcases hb with hb | hb
  ·-- one sign
   have zJ:∀x,lo≤x→x≤hi→cH (e x f)=cH (e lo f)∧cH (e lo f)≠0:=fun x h1 h2=>by
    refine fZ hb hε0 fun h=>?_
    have h3:=mY lo x f.l
    have h4:=small (x-lo) _ (by grind) (by grind) (dsz lo x Rat.le_refl (by grind) h1 h2).1
    rw [←h3]at h4
    obtain⟨p1,p2⟩:=h4
    have h5:e x f-e lo f=qv x f.l-qv lo f.l:=rfl
    rw [h5]at h
    rcases h with h | h<;>grind
   have h1:=G.const hlh (σ:=cH (e lo f)) (.inr rfl) (fun x h1 h2=>(zJ x (by grind) h2).1)
   have h2:ind f lo hi=0:=if_neg fun h=>h.2 (zJ hi (by grind) Rat.le_refl).1
   have hz:∀x,lo≤x→x≤hi→e x f≠0:=fun x h1 h2 h=>by
    obtain⟨g1,g2⟩:=zJ x h1 h2
    rw [h,iL]at g1
    exact g2 g1.symm
   exact⟨by rw [h1,h2];omega,fun h=>absurd h (hz lo Rat.le_refl (by grind)),by rw [h2,if_pos rfl,Int.one_mul,FY,FY,if_neg (hz _ (by grind) Rat.le_refl),if_neg (hz _ Rat.le_refl (by grind)),(zJ hi (by grind) Rat.le_refl).1]⟩
  ·-- rising or axK
   have mono:∀x y,lo≤x→x<y→y≤hi→cH (e y f-e x f)=cH (e lo (b9 f))∧cH (e lo (b9 f))≠0:=fun x y h1 h2 h3=>by
    have g1:=mY x y f.l
    have g2:=L2 x y f.l
    have g3:dd x x f.l=e x (b9 f):=(afk x f).symm
    have g4:=mY lo x (b9 f).l
    have b1:=small (y-x) _ (by grind) (by grind) (dsz x y h1 (by grind) (by grind) h3).2.1
    have b2:=small (x-lo) _ (by grind) (by grind) (dsz lo x Rat.le_refl (by grind) h1 (by grind)).2.2
    rw [←g2]at b1
    rw [←g4]at b2
    have h5:e x (b9 f)-e lo (b9 f)=qv x (b9 f).l-qv lo (b9 f).l:=rfl
    have h6:=fZ (y:=dd x y f.l) hb hε0 fun h=>by
     obtain⟨p1,p2⟩:=b1
     obtain⟨p3,p4⟩:=b2
     rcases h with h | h<;>grind
    have h7:e y f-e x f=qv y f.l-qv x f.l:=rfl
    rw [h7,g1,u4,eF (show 0<y-x by grind),Int.one_mul]
    exact h6
   have ZG:∀x y,lo≤x→x<y→y≤hi→(cH (e lo (b9 f))=1∧e x f<e y f)∨(cH (e lo (b9 f)) = -1∧e y f<e x f):=fun x y h1 h2 h3=>by
    obtain⟨g1,g2⟩:=mono x y h1 h2 h3
    rcases cP (e y f-e x f)with ⟨g3,g4⟩ | ⟨g3,g4⟩ | ⟨g3,g4⟩
    ·exact .inr ⟨by omega,by grind⟩
    ·omega
    ·exact .inl ⟨by omega,by grind⟩
   have dsg:∀x,lo≤x→x≤hi→cH (e x (b9 f))=cH (e lo (b9 f)):=fun x h1 h2=>by
    have g4:=mY lo x (b9 f).l
    have b2:=small (x-lo) _ (by grind) (by grind) (dsz lo x Rat.le_refl (by grind) h1 h2).2.2
    rw [←g4]at b2
    have h5:e x (b9 f)-e lo (b9 f)=qv x (b9 f).l-qv lo (b9 f).l:=rfl
    exact(fZ hb hε0 fun h=>by
     obtain⟨p3,p4⟩:=b2
     rcases h with h | h<;>grind).1
   refine⟨?_,fun h=>?_,?_⟩
   ·refine G.afn (P:=fun x y=>lo≤x→y≤hi→vt L x=vt L y+ind f x y) (fun x y z rU hyz p1 p2 hx hz=>?_) (fun B δ' hL x y hx hy rU hd h1 h2=>hL.turns x y hx hy rU hd) hlh Rat.le_refl Rat.le_refl
    rw [p1 hx (by grind),p2 (by grind) hz]
    have h1:=ZG x y hx rU (by grind)
    have h2:=ZG y z (by grind) hyz hz
    have h3:=ajt (x:=e x f) (y:=e y f) (z:=e z f) (by
     rcases h1 with ⟨q1,q2⟩ | ⟨q1,q2⟩<;>rcases h2 with ⟨q3,q4⟩ | ⟨q3,q4⟩
     ·exact .inl ⟨q2,q4⟩
     ·omega
     ·omega
     ·exact .inr ⟨q2,q4⟩)
    have h4:ind f x z=ind f x y+ind f y z:=h3
    omega
   ·rcases ZG lo hi Rat.le_refl hlh Rat.le_refl with ⟨q1,q2⟩ | ⟨q1,q2⟩<;>grind
   ·have h1:=afH (ZG lo hi Rat.le_refl hlh Rat.le_refl)
    unfold FY ind
    rw [dsg hi (by grind) Rat.le_refl]
    exact h1
 exact⟨⟨fun x y hx hy rU hd=>(main x y hx hy rU hd).1,fun x y hx hy rU hd=>(main x y hx hy rU hd).2.1⟩,⟨fun x y hx hy rU hd=>(main x y hx hy rU hd).2.2⟩⟩
end ZX
end Pm
namespace Pm
namespace ZX
theorem FZ:∀l:List Int,∃s:Nat,∀c∈l,c.natAbs≤2^s
 | []=>⟨0,fun c hc=>by cases hc⟩
 | a::l=>by
  obtain⟨s,h⟩:=FZ l
  refine⟨s+a.natAbs,fun c hc=>?_⟩
  rcases List.mem_cons.1 hc with rfl | hc
  ·have h1:c.natAbs<2^c.natAbs:=Nat.lt_two_pow_self
   exact Nat.le_trans (Nat.le_of_lt h1) (Nat.pow_le_pow_right (by decide) (by omega))
  ·exact Nat.le_trans (h c hc) (Nat.pow_le_pow_right (by decide) (by omega))
theorem Q7(B:Rat):∃β:Nat,B≤2^β:=by
 have h1:=Rat.lt_floor_add_one B
 refine⟨(B.floor+1).toNat,Rat.le_trans (Rat.le_of_lt h1) ?_⟩
 have h2:((2^(B.floor+1).toNat:Int):Rat)=2^(B.floor+1).toNat:=by rw [Rat.intCast_pow];rfl
 rw [←h2]
 refine Rat.intCast_le_intCast.2 ?_
 have h3:(B.floor+1).toNat<2^(B.floor+1).toNat:=Nat.lt_two_pow_self
 have h4:((2^(B.floor+1).toNat:Nat):Int)=2^(B.floor+1).toNat:=by rw [Int.natCast_pow];rfl
 omega
theorem F0(k:Nat):∃δ:Rat,0<δ∧δ*2^k=1:=by
 have h:=fA k
 have h1:(1/2^k)*(2:Rat)^k=1:=Rat.div_mul_cancel (Rat.ne_of_gt h)
 exact⟨1/2^k,(Rat.lt_div_iff h).2 (by grind),h1⟩
theorem min2{a b:Rat}(ha:0<a)(hb:0<b):∃c:Rat,0<c∧c≤a∧c≤b:=by
 by_cases h:a≤b
 ·exact⟨a,ha,Rat.le_refl,h⟩
 ·exact⟨b,hb,by grind,Rat.le_refl⟩
theorem afI{P:Rat→Rat→Prop}(ht:∀a b c,a<b→b<c→P a b→P b c→P a c)(hs:∀B:Rat,1≤B → ∃δ:Rat,0<δ ∧ ∀a b,Ab a B→Ab b B→a<b→b-a≤δ→P a b){a b:Rat}(gW:a<b):P a b:=by
 obtain⟨B,hB,ha,hb⟩:=j4 a b
 obtain⟨δ,hδ,h⟩:=hs B hB
 exact apr hδ ht h ha hb gW
theorem lip(p:ZX)(B:Rat)(hB:1≤B):∃Q:Rat,0<Q ∧ ∀a b,Ab a B→Ab b B→a≤b→Ab (e b p-e a p) ((b-a)*Q):=by
 obtain⟨S,hS,hc⟩:=C9 p.l
 obtain⟨h3,_⟩:=o9 hS hB p.l.length
 refine⟨zK S B p.l.length+1,by grind,fun a b ha hb gW=>?_⟩
 have h1:=(I6 hS hB ha hb p.l hc).mono (show zK S B p.l.length≤zK S B p.l.length+1 by grind)
 have h2:=mY a b p.l
 have h4:e b p-e a p=qv b p.l-qv a p.l:=rfl
 rw [h4,h2]
 exact Ab.mul ⟨by grind,Rat.le_refl⟩ h1
def sN(a b:ZX):Prop:=∀d,dv d a→dv d b→N d≤1
theorem sN.mono{a b c d:ZX}(h:sN a b)(h1:dv c a)(h2:dv d b):sN c d:=fun x h3 h4=>h x (h3.trans h1) (h4.trans h2)
theorem avM{a b:ZX}(ha:a≠0)(hb:b≠0)(hc:sN a b)(B:Rat):∃ε:Rat,0<ε ∧ ∀t,Ab t B→lK ε (e t a)∨lK ε (e t b):=by
 obtain⟨s1,h1⟩:=FZ a.l
 obtain⟨s2,h2⟩:=FZ b.l
 obtain⟨β,hβ⟩:=Q7 B
 obtain⟨ε,h3,h4⟩:=F0 (sk (s1+s2) (N a+N b) (N a+N b) β)
 exact⟨ε,h3,fun t ht=>sep (s:=s1+s2) (l:=N a+N b) (β:=β) ha hb (fun c hc=>Nat.le_trans (h1 c hc) (Nat.pow_le_pow_right (by decide) (by omega))) (fun c hc=>Nat.le_trans (h2 c hc) (Nat.pow_le_pow_right (by decide) (by omega))) (Nat.le_refl _) (Nat.le_of_lt Nat.lt_two_pow_self) hc (ht.mono hβ) (by rw [h4];exact Rat.le_refl)⟩
structure sE(f:ZX)(v:Rat→Nat):Prop where
 ne:f≠0
 DC:sN f (b9 f)
 g:∃L,CP L f∧v=vt L
structure aAV(f:ZX)(v:Rat→Nat)(B δ:Rat):Prop where
 turns:∀s t,Ab s B→Ab t B→s<t→t-s≤δ→v s=v t+ind f s t
 simple:∀s t,Ab s B→Ab t B→s<t→t-s≤δ→e s f=0→e t f≠0
 par:∀s t,Ab s B→Ab t B→s<t→t-s≤δ→FY f t=(if ind f s t=0 then 1 else -1)*FY f s
def sg1(n:Nat):Int:=if n%2=0 then 1 else -1
theorem aju(a b:Nat):sg1 (a+b)=sg1 a*sg1 b:=by
 unfold sg1
 split<;>split<;>split<;>omega
theorem MH(f:ZX)(s t:Rat):ind f s t=0∨ind f s t=1:=by unfold ind;split<;>simp
namespace sE
variable {f:ZX} {v:Rat→Nat} (S:sE f v)
include S
theorem qU(B:Rat):∃δ:Rat,0<δ∧aAV f v B δ:=by
 obtain⟨L,G,rfl⟩:=S.g
 obtain⟨s,h1⟩:=FZ f.l
 obtain⟨β,hβ⟩:=Q7 B
 obtain⟨δ,h3,h4⟩:=F0 (lk s (N f) (N f) β)
 obtain⟨h5,h6⟩:=u7 G S.ne h1 (Nat.le_refl _) (Nat.le_of_lt Nat.lt_two_pow_self) S.DC (δ:=δ) (by rw [h4];exact Rat.le_refl)
 exact⟨δ,h3,fun s t hs ht=>h5.turns s t (hs.mono hβ) (ht.mono hβ),fun s t hs ht=>h5.simple s t (hs.mono hβ) (ht.mono hβ),fun s t hs ht=>h6.par s t (hs.mono hβ) (ht.mono hβ)⟩
theorem b8{a b:Rat}(gW:a≤b):v b≤v a:=by
 obtain⟨L,G,rfl⟩:=S.g
 exact G.b8 gW
theorem const{a b:Rat}(gW:a<b){σ:Int}(h0:e a f=0∨cH (e a f)=σ)(h1:∀x,a<x→x≤b→cH (e x f)=σ):v a=v b:=by
 obtain⟨L,G,rfl⟩:=S.g
 exact G.const gW h0 h1
theorem flat{a b:Rat}(gW:a<b)(he:v a=v b):e b f≠0∧(e a f≠0→cH (e b f)=cH (e a f)):=by
 obtain⟨L,G,rfl⟩:=S.g
 exact G.flat gW he
theorem root{s t:Rat}(iP:s<t)(h0:e t f=0):v t<v s:=by
 obtain⟨L,G,rfl⟩:=S.g
 exact G.root iP h0
theorem bg{a b:Rat}(hb:Bg a b f)(gW:a<b):v a=v b:=by
 obtain⟨L,G,rfl⟩:=S.g
 exact G.bg hb gW
theorem par{s t:Rat}(h:s≤t):FY f t=sg1 (v s-v t)*FY f s:=by
 rcases Rat.le_iff_lt_or_eq.1 h with h1 | rfl
 ·refine afI (P:=fun a b=>FY f b=sg1 (v a-v b)*FY f a) (fun a b c h1 h2 p1 p2=>?_) (fun B hB=>?_) h1
  ·have:=S.b8 (Rat.le_of_lt h1)
   have:=S.b8 (Rat.le_of_lt h2)
   rw [p2,p1,show v a-v c=(v a-v b)+(v b-v c)by omega,aju];grind
  ·obtain⟨δ,hδ,hN⟩:=S.qU B
   refine⟨δ,hδ,fun a b ha hb gW hd=>?_⟩
   have h1:=hN.turns a b ha hb gW hd
   have h2:=hN.par a b ha hb gW hd
   rw [h2,show v a-v b=ind f a b by omega]
   rcases MH f a b with h3 | h3<;>rw [h3]<;>rfl
 ·rw [Nat.sub_self];show _=1*_;omega
end sE
theorem ZH{f:ZX}{t:Rat}(h:e t f≠0):∃r:Rat,0<r ∧ ∀x,t-r≤x→x≤t+r→cH (e x f)=cH (e t f):=by
 obtain⟨B,hB,ha,hb⟩:=j4 (t-1) (t+1)
 obtain⟨Q,hQ,hl⟩:=lip f B hB
 have hε:∃ε:Rat,0<ε∧lK ε (e t f):=by
  by_cases h0:0≤e t f
  ·exact⟨e t f,by grind, .inr Rat.le_refl⟩
  ·exact⟨-e t f,by grind, .inl (by grind)⟩
 obtain⟨ε,hε,VB⟩:=hε
 have h1:ε/(2*Q)*(2*Q)=ε:=Rat.div_mul_cancel (by grind)
 have h2:0<ε/(2*Q):=(Rat.lt_div_iff (by grind)).2 (by grind)
 generalize ε/(2*Q)=η at *
 obtain⟨r,hr,uJ,cC⟩:=min2 (show (0:Rat)<1 by decide) h2
 refine⟨r,hr,fun x hx hy=>?_⟩
 have HO:Ab x B:=cL ha hb (by grind) (by grind)
 have ht':Ab t B:=cL ha hb (by grind) (by grind)
 have hrQ:r*Q≤η*Q:=Rat.mul_le_mul_of_nonneg_right cC (Rat.le_of_lt hQ)
 refine(fZ VB hε fun hn=>?_).1
 by_cases hxt:t≤x
 ·have h3:=hl t x ht' HO hxt
  have h4:(x-t)*Q≤r*Q:=Rat.mul_le_mul_of_nonneg_right (by grind) (Rat.le_of_lt hQ)
  obtain⟨p1,p2⟩:=h3
  rcases hn with hn | hn<;>grind
 ·have h3:=hl x t HO ht' (by grind)
  have h4:(t-x)*Q≤r*Q:=Rat.mul_le_mul_of_nonneg_right (by grind) (Rat.le_of_lt hQ)
  obtain⟨p1,p2⟩:=h3
  rcases hn with hn | hn<;>grind
namespace sE
variable {f:ZX} {v:Rat→Nat} (S:sE f v)
include S
theorem lft{t:Rat}(h:e t f≠0){a:Rat}(hat:a<t):∃s,a≤s∧s<t∧v s=v t∧cH (e s f)=cH (e t f):=by
 obtain⟨B,hB,ha,hb⟩:=j4 a t
 obtain⟨δ,hδ,hN⟩:=S.qU B
 obtain⟨r1,uJ,hc⟩:=ZH h
 obtain⟨r2,cC,h1,h2⟩:=min2 hδ (show 0<t-a by grind)
 obtain⟨r,hr,h3,h4⟩:=min2 uJ cC
 have hs:Ab (t-r) B:=cL ha hb (by grind) (by grind)
 have g1:=hN.turns (t-r) t hs hb (by grind) (by grind)
 have g5:=hc (t-r) (by grind) (by grind)
 have g4:ind f (t-r) t=0:=if_neg fun hh=>hh.2 g5.symm
 exact⟨t-r,by grind,by grind,by omega,g5⟩
theorem small{s t Q:Rat}(iP:s<t)(hv:v s≠v t)(hQ:0<Q)(hl:∀a b,s≤a→a≤b→b≤t→Ab (e b f-e a f) ((b-a)*Q)){x:Rat}(hx:s≤x)(hy:x≤t):Ab (e x f) ((t-s)*Q):=by
 refine Classical.byContradiction fun hn=>hv ?_
 have key:∀y,s≤y→y≤t→cH (e y f)=cH (e x f):=fun y h1 h2=>by
  have h3:Ab (e y f-e x f) ((t-s)*Q):=by
   by_cases rU:x≤y
   ·exact(hl x y hx rU h2).mono (Rat.mul_le_mul_of_nonneg_right (by grind) (Rat.le_of_lt hQ))
   ·have h4:=(hl y x h1 (by grind) hy).mono (Rat.mul_le_mul_of_nonneg_right (show x-y≤t-s by grind) (Rat.le_of_lt hQ))
    obtain⟨p1,p2⟩:=h4
    exact⟨by grind,by grind⟩
  obtain⟨p1,p2⟩:=h3
  have h0:0≤(t-s)*Q:=Rat.mul_nonneg (by grind) (Rat.le_of_lt hQ)
  generalize (t-s)*Q=M at *
  rcases cP (e x f)with ⟨h5,h6⟩ | ⟨h5,h6⟩ | ⟨h5,h6⟩
  ·rw [h6]
   refine fS ?_
   have:e x f < -M:=Rat.not_le.1 fun h=>hn ⟨h,by grind⟩
   grind
  ·exact absurd ⟨by grind,by grind⟩ hn
  ·rw [h6]
   refine eF ?_
   have:M<e x f:=Rat.not_le.1 fun h=>hn ⟨by grind,h⟩
   grind
 exact S.const iP (σ:=cH (e x f)) (.inr (key s Rat.le_refl (Rat.le_of_lt iP))) fun y h1 h2=>key y (Rat.le_of_lt h1) h2
end sE
theorem JE{p q:Prop}[Decidable p][Decidable q](h:p↔q):(if p then 1 else 0:Nat)=if q then 1 else 0:=by
 by_cases hp:p
 ·rw [if_pos hp,if_pos (h.1 hp)]
 ·rw [if_neg hp,if_neg (fun hq=>hp (h.2 hq))]
theorem AQ{c x y z:Rat}(hc:c≠0)(h:c*x=y*z):cH x=cH c*(cH y*cH z):=by
 have h1:cH c*cH x=cH y*cH z:=by rw [←u4,←u4,h]
 rw [←h1]
 rcases cP c with ⟨h2,h3⟩ | ⟨h2,h3⟩ | ⟨h2,h3⟩
 ·rw [h3];omega
 ·exact absurd h2 hc
 ·rw [h3];omega
theorem sE.mul{f g h:ZX}{v w u:Rat→Nat}(Sf:sE f v)(Sg:sE g w)(Sh:sE h u){c:Int}(hc:c≠0)(he:K c*f=g*h)(aAW:sN g h){s t:Rat}(iP:s≤t):v s+w t+u t=v t+w s+u s:=by
 rcases Rat.le_iff_lt_or_eq.1 iP with h1 | rfl
 ·refine afI (P:=fun s t=>v s+w t+u t=v t+w s+u s) (fun a b c h1 h2 p1 p2=>by omega) (fun B hB=>?_) h1
  obtain⟨δ1,hδ1,N1⟩:=Sf.qU B
  obtain⟨δ2,hδ2,N2⟩:=Sg.qU B
  obtain⟨δ3,hδ3,N3⟩:=Sh.qU B
  obtain⟨ε,hε,aA0⟩:=avM Sg.ne Sh.ne aAW B
  obtain⟨Q1,hQ1,l1⟩:=lip g B hB
  obtain⟨Q2,hQ2,l2⟩:=lip h B hB
  have hQ:0<Q1+Q2:=by grind
  have e1:ε/(2*(Q1+Q2))*(2*(Q1+Q2))=ε:=Rat.div_mul_cancel (by grind)
  have e2:0<ε/(2*(Q1+Q2)):=(Rat.lt_div_iff (by grind)).2 (by grind)
  generalize ε/(2*(Q1+Q2))=δ4 at *
  obtain⟨m1,IE,a1,a2⟩:=min2 hδ1 hδ2
  obtain⟨m2,hm2,a3,a4⟩:=min2 hδ3 e2
  obtain⟨δ,hδ,a5,a6⟩:=min2 IE hm2
  refine⟨δ,hδ,fun s t hs ht c8 hd=>?_⟩
  have t1:=N1.turns s t hs ht c8 (by grind)
  have t2:=N2.turns s t hs ht c8 (by grind)
  have t3:=N3.turns s t hs ht c8 (by grind)
  have hcq:(c:Rat)≠0:=fun h0=>hc (Rat.intCast_eq_zero_iff.1 h0)
  have sgm:∀x,cH (e x f)=cH (c:Rat)*(cH (e x g)*cH (e x h)):=fun x=>by
   refine AQ hcq ?_
   rw [←sC,←he,sC,CN]
  have dl:∀Q,0<Q→Q≤Q1+Q2→(t-s)*Q<ε:=fun Q h0 h1=>by
   have h2:(t-s)*Q≤δ4*(Q1+Q2):=by
    have h3:=Rat.mul_le_mul_of_nonneg_right (show t-s≤δ4 by grind) (Rat.le_of_lt h0)
    have h4:=Rat.mul_le_mul_of_nonneg_left h1 (Rat.le_of_lt e2)
    grind
   have h5:δ4*(Q1+Q2)*2=ε:=by rw [←e1];grind
   grind
  have sc:=cP (c:Rat)
  have MX:cH (c:Rat)=1∨cH (c:Rat) = -1:=by
   rcases sc with ⟨_,h⟩ | ⟨h,_⟩ | ⟨_,h⟩
   ·exact .inr h
   ·exact absurd h hcq
   ·exact .inl h
  have ez:∀(p:ZX) x,(e x p≠0)=(cH (e x p)≠0):=fun p x=>propext ⟨fun h h0=>h (eU.1 h0),fun h h0=>h (by rw [h0];exact iL)⟩
  rcases aA0 s hs with hb | hb
  ·have hs2:=fZ (y:=e t g) hb hε fun hn=>by
    obtain⟨p1,p2⟩:=l1 s t hs ht (Rat.le_of_lt c8)
    have:=dl Q1 hQ1 (by grind)
    rcases hn with hn | hn<;>grind
   have i1:ind g s t=0:=if_neg fun hh=>hh.2 hs2.1
   have i2:ind f s t=ind h s t:=by
    refine JE ?_
    rw [ez f s,ez h s,sgm s,sgm t,hs2.1]
    have:=nS (e s g)
    have h7:cH (c:Rat)*cH (e s g)=1∨cH (c:Rat)*cH (e s g) = -1:=by
     rcases MX with h | h<;>rw [h]<;>omega
    rw [←Int.mul_assoc,←Int.mul_assoc]
    rcases h7 with h | h<;>rw [h]
    ·simp only [Int.one_mul]
    ·simp only [Int.neg_mul,Int.one_mul,ne_eq,Int.neg_eq_zero,Int.neg_inj]
   omega
  ·have hs2:=fZ (y:=e t h) hb hε fun hn=>by
    obtain⟨p1,p2⟩:=l2 s t hs ht (Rat.le_of_lt c8)
    have:=dl Q2 hQ2 (by grind)
    rcases hn with hn | hn<;>grind
   have i1:ind h s t=0:=if_neg fun hh=>hh.2 hs2.1
   have i2:ind f s t=ind g s t:=by
    refine JE ?_
    rw [ez f s,ez g s,sgm s,sgm t,hs2.1]
    have:=nS (e s h)
    have h7:cH (c:Rat)*cH (e s h)=1∨cH (c:Rat)*cH (e s h) = -1:=by
     rcases MX with h | h<;>rw [h]<;>omega
    have cm:∀y:Int,cH (c:Rat)*(y*cH (e s h))=cH (c:Rat)*cH (e s h)*y:=fun y=>by grind
    rw [cm,cm]
    rcases h7 with h | h<;>rw [h]
    ·simp only [Int.one_mul]
    ·simp only [Int.neg_mul,Int.one_mul,ne_eq,Int.neg_eq_zero,Int.neg_inj]
   omega
 ·omega
structure jP(f:ZX)(v:Rat→Nat)(lo hi:Rat):Prop where
 S:sE f v
 k:(lo=hi∧e lo f=0)∨(lo<hi∧v lo=v hi+1)
def gM(v:Rat→Nat)(lo hi t:Rat):Prop:=hi≤t∨(lo<t∧v t<v lo)
noncomputable def cr(U:Rat→Prop)(t:Rat):Int:=open Classical in if U t then(if ∃s,s<t∧U s then -1 else 0)else 1
theorem rQ{U:Rat→Prop}{t:Rat}:cr U t=1↔¬U t:=by
 unfold cr
 split
 ·rename_i h
  split<;>simp [h]
 ·rename_i h
  simp [h]
theorem F2{U:Rat→Prop}(hU:∀s t,U s→s≤t→U t){t:Rat}:cr U t = -1 ↔ ∃s,s<t∧U s:=by
 unfold cr
 split
 ·split
  ·rename_i h;simp [h]
  ·rename_i h;simp [h]
 ·rename_i h
  refine⟨fun h1=>absurd h1 (by decide),fun⟨s,h1,h2⟩=>absurd (hU s t h2 (Rat.le_of_lt h1)) h⟩
theorem DE{U:Rat→Prop}{t:Rat}:cr U t=0↔U t ∧ ∀s,s<t→¬U s:=by
 unfold cr
 split
 ·rename_i h
  split
  ·rename_i h2
   refine⟨fun h1=>absurd h1 (by decide),fun⟨_,h3⟩=>?_⟩
   obtain⟨s,h4,h5⟩:=h2
   exact absurd h5 (h3 s h4)
  ·rename_i h2
   exact⟨fun _=>⟨h,fun s h3 h4=>h2 ⟨s,h3,h4⟩⟩,fun _=>rfl⟩
 ·rename_i h
  exact⟨fun h1=>absurd h1 (by decide),fun h1=>absurd h1.1 h⟩
noncomputable def cu(U V:Rat→Prop):Int:=open Classical in if ∃t,U t∧¬V t then -1 else if ∃t,V t∧¬U t then 1 else 0
theorem ajv(U:Rat→Prop):cu U U=0:=by
 unfold cu
 rw [if_neg (fun ⟨t,h1,h2⟩=>h2 h1),if_neg (fun ⟨t,h1,h2⟩=>h2 h1)]
theorem ZI{U V:Rat→Prop}:cu U V=0 ↔ ∀t,U t↔V t:=by
 unfold cu
 split
 ·rename_i h
  refine⟨fun h1=>absurd h1 (by decide),fun h1=>?_⟩
  obtain⟨t,h2,h3⟩:=h
  exact absurd ((h1 t).1 h2) h3
 ·rename_i h
  split
  ·rename_i h'
   refine⟨fun h1=>absurd h1 (by decide),fun h1=>?_⟩
   obtain⟨t,h2,h3⟩:=h'
   exact absurd ((h1 t).2 h2) h3
  ·rename_i h'
   exact⟨fun _ t=>⟨fun h1=>Classical.byContradiction fun h2=>h ⟨t,h1,h2⟩,fun h1=>Classical.byContradiction fun h2=>h' ⟨t,h1,h2⟩⟩,fun _=>rfl⟩
theorem eO{v:Rat→Nat}{lo hi:Rat}:gM v lo hi hi:=.inl Rat.le_refl
namespace jP
variable {f:ZX} {v:Rat→Nat} {lo hi:Rat} (A:jP f v lo hi)
include A
theorem le:lo≤hi:=by
 rcases A.k with ⟨h,_⟩ | ⟨h,_⟩
 ·rw [h];exact Rat.le_refl
 ·exact Rat.le_of_lt h
theorem up{s t:Rat}(h:gM v lo hi s)(iP:s≤t):gM v lo hi t:=by
 rcases h with h | ⟨h1,h2⟩
 ·exact .inl (by grind)
 ·have:=A.S.b8 iP
  exact .inr ⟨by grind,by omega⟩
theorem gU{t:Rat}(h:t<lo∨(t=lo∧lo<hi)):¬gM v lo hi t:=by
 have:=A.le
 rintro(h1 | ⟨h1,_⟩)<;>grind
theorem avO(t:Rat):cr (gM v lo hi) t=if lo=hi then(if lo<t then -1 else if t<lo then 1 else 0)else if t≤lo then 1 else if hi<t then -1 else if v lo=v t then 1 else if e t f=0 then 0 else -1:=by
 have hup:=fun s t (h:gM v lo hi s) (h':s≤t)=>A.up h h'
 have hle:=A.le
 split
 ·rename_i h
  subst h
  have hU:∀t,gM v lo lo t↔lo≤t:=fun t=>⟨fun h=>by rcases h with h | h<;>grind,fun h => .inl h⟩
  split
  ·exact(F2 hup).2 ⟨lo,by assumption, .inl Rat.le_refl⟩
  ·split
   ·exact rQ.2 (fun h=>by have:=(hU t).1 h;grind)
   ·exact DE.2 ⟨.inl (by grind),fun s h1 h2=>by have:=(hU s).1 h2;grind⟩
 ·rename_i kQ
  have c8:lo<hi:=by grind
  have hk:v lo=v hi+1:=by
   rcases A.k with ⟨h,_⟩ | ⟨_,h⟩
   ·exact absurd h kQ
   ·exact h
  split
  ·rename_i h
   exact rQ.2 (A.gU (by grind))
  ·rename_i h1
   split
   ·rename_i h2
    exact(F2 hup).2 ⟨hi,h2,eO⟩
   ·rename_i h2
    have b1:=A.S.b8 (show lo≤t by grind)
    have b2:=A.S.b8 (show t≤hi by grind)
    split
    ·rename_i h3
     refine rQ.2 ?_
     rintro(h4 | ⟨_,h4⟩)
     ·have:t=hi:=by grind
      subst this;omega
     ·omega
    ·rename_i h3
     split
     ·rename_i h4
      refine DE.2 ⟨.inr ⟨by grind,by omega⟩,fun s h5 h6=>?_⟩
      have h7:=A.S.root h5 h4
      rcases h6 with h6 | ⟨h6,h8⟩
      ·grind
      ·omega
     ·rename_i h4
      obtain⟨s,h5,h6,h7,_⟩:=A.S.lft h4 (show lo<t by grind)
      refine(F2 hup).2 ⟨s,h6, .inr ⟨?_,by omega⟩⟩
      rcases Rat.le_iff_lt_or_eq.1 h5 with h8 | rfl
      ·exact h8
      ·omega
theorem half{m:Rat}(h1:lo<m)(h2:m<hi):(v m<v lo→jP f v lo m ∧ ∀t,gM v lo m t↔gM v lo hi t)∧(¬v m<v lo→jP f v m hi ∧ ∀t,gM v m hi t↔gM v lo hi t):=by
 have hk:v lo=v hi+1:=by
  rcases A.k with ⟨h,_⟩ | ⟨_,h⟩
  ·grind
  ·exact h
 have b1:=A.S.b8 (Rat.le_of_lt h1)
 have b2:=A.S.b8 (Rat.le_of_lt h2)
 refine⟨fun h=>⟨⟨A.S, .inr ⟨h1,by omega⟩⟩,fun t=>⟨?_,?_⟩⟩,fun h=>⟨⟨A.S, .inr ⟨h2,by omega⟩⟩,fun t=>⟨?_,?_⟩⟩⟩
 ·rintro(h3 | h3)
  ·have:=A.S.b8 h3
   exact .inr ⟨by grind,by omega⟩
  ·exact .inr h3
 ·rintro(h3 | h3)
  ·exact .inl (by grind)
  ·exact .inr h3
 ·rintro(h3 | ⟨h3,h4⟩)
  ·exact .inl h3
  ·exact .inr ⟨by grind,by omega⟩
 ·rintro(h3 | ⟨h3,h4⟩)
  ·exact .inl h3
  ·refine .inr ⟨?_,by omega⟩
   refine Rat.not_le.1 fun h5=>?_
   have:=A.S.b8 h5
   omega
theorem exact(h:e hi f=0):jP f v hi hi ∧ ∀t,gM v hi hi t↔gM v lo hi t:=by
 refine⟨⟨A.S, .inl ⟨rfl,h⟩⟩,fun t=>⟨?_,?_⟩⟩
 ·rintro(h3 | ⟨h3,_⟩)
  ·exact .inl h3
  ·exact .inl (by grind)
 ·rintro(h3 | ⟨h3,h4⟩)
  ·exact .inl h3
  ·refine .inl (Rat.not_lt.1 fun h5=>?_)
   have h6:=A.S.root h5 h
   rcases A.k with ⟨h7,_⟩ | ⟨_,h7⟩
   ·grind
   ·omega
end jP
end ZX
end Pm
namespace Pm
open Go Go.RowKit
section
variable {E:Env} {m:Nat} {G:Gs} {w0:World} {S0:eG}
def mx3(p q r:PV)(K:PV→Prop):Prop:=∃k a b c,p = .int k a∧q = .int k b∧r = .int k c∧K (.int k (max (max a b) c))
@[simp] theorem axM{k:IntKind}{a b c:Int}{K:PV→Prop}:mx3 (.int k a) (.int k b) (.int k c) K=K (.int k (max (max a b) c)):=by
 apply propext
 constructor
 ·rintro⟨k',a',b',c',h1,h2,h3,h⟩
  cases h1;cases h2;cases h3;exact h
 ·exact fun h=>⟨k,a,b,c,rfl,rfl,rfl,h⟩
def avP(o:Oper)(K:PS→Prop)(σ:PS):Prop:=
 match o.op with
 | .call { callee:=.builtin .max,args:=⟨[x,y,z]⟩,argTypes:=_ }=>mx3 (aX σ.f x) (aX σ.f y) (aX σ.f z) fun v=>K (σ.put o.dst v)
 | _=>False
end
@[simp] theorem avQ{K:PS→Prop}{f:Nat→PV}{rows:Rows}{clk:Nat}{d:Option Tmp}{ty:TypeId}{pos:String}{af:Array Edge}{ts:Array TypeId}{x y z:Operand} :
  avP ⟨d, .call { callee:=.builtin .max,args:=⟨[x,y,z]⟩,argTypes:=ts },ty,pos,af,none⟩ K ⟨f,rows,clk⟩=mx3 (aX f x) (aX f y) (aX f z) fun v=>K ⟨put f d v,rows,clk⟩:=rfl
section
variable {E:Env} {w0:World} {S0:eG} {n:Nat} {G:Gs}
theorem HI{id tl:Nat}{ops:Array Oper}{T:PS→Prop}{Q:Exit→Act→World→Prop}(iI:s6 E n tl ops true=true)(htl:tl≠0){σ:PS}{a:Act}{w:World}
  (h:aT E ops.toList σ.clock 0 (ops.toList.take (ops.size-tl)) T ⟨σ.f,σ.rows,fun _ _=>False,fun _ _=>False⟩) (hR:Rel w0 S0 n G σ a w)
  (hT:∀σ' a' w',T σ'→Rel w0 S0 n G σ' a' w'→wpList E.P ops Q (ops.toList.drop (ops.size-tl)) a' w'):(Code.region id ops true).wp E.P Q a w:=by
 simp only [s6,Bool.and_eq_true,Bool.not_true,Bool.false_or]at iI
 obtain⟨amC,vL,iI⟩:=iI
 have hd:∀o,o∈ops → ∀t,o.dst=some t→t<n:=by
  intro o ho t ht
  have:=Array.all_eq_true_iff_forall_mem.1 amC o ho
  simpa [ht]using this
 refine wp_region_any E.mixed ?_
 have NK:=hR.drew
 have hU0:∀k (l:Array Bool),qL w0 S0 n G (Ul E ops σ.clock k l) σ.f σ.rows a { w with drawn:=w.drawn+1 }:=fun k l=>NK.mono fun v hv => .inl hv
 have ahp:∀(l:List Oper),wB E l=true → ∀(i:Nat) (oi:Oper),l[i]? = some oi→eA E oi.op=true→oi.dst.isSome=true:=fun l h i oi hi hn=>by
  have:=List.all_eq_true.1 h oi (List.mem_of_getElem? hi)
  rw [hn]at this;simp at this;exact Option.isSome_iff_exists.2 (by obtain⟨x,hx⟩:=Option.isSome_iff_exists.1 this.1;exact⟨x,hx⟩)
 rw [if_neg htl]at iI vL
 have qK:∀i oi,i<ops.size-tl→ops[i]? = some oi→eA E oi.op=true→oi.dst.isSome=true:=fun i oi h1 hi=>ahp _ vL i oi (by rw [List.getElem?_take,if_pos h1];simpa using hi)
 simp only [Bool.and_eq_true,decide_eq_true_eq]at iI
 obtain⟨hle,hB⟩:=iI
 simp only [Region.lexTailB,Bool.and_eq_true,decide_eq_true_eq]at hB
 obtain⟨⟨⟨⟨ayt,xL⟩,hs⟩,hc⟩,amD⟩:=hB
 have hl:=pZ (c0:=σ.clock) (ops.toList.take (ops.size-tl)) 0 _ _ (fun j hj=>by
  have hj':j<ops.size-tl:=by simpa using hj
  simp [hj']) vL (by simp [rk]) h
 have acP:HeadInv .any ops (ops.size-tl) (Array.replicate ops.size false):=
  ⟨by simp,fun j oj _ hl=>(by rw [getD_replicate_false]at hl;cases hl),fun t _ ht=>getD_in (by simpa using ht) (getD_replicate_false _ _)⟩
 have zF:(ops.toList.take (ops.size-tl)).length=ops.size-tl:=by simp
 have hdl:(ops.toList.drop (ops.size-tl)).length=ops.size-(ops.size-tl):=by simp
 have H:=uE (E:=E) (md:=.any) (n:=ops.size-tl) (g:=ops.size-(ops.size-tl)) qK (fun bL inv i hi R6 t ht=>tail_waits hs hc xL inv _ i rfl hi R6 t ht) (ops.toList.take (ops.size-tl)) 0 _ _ (fun j hj=>by
  rw [zF]at hj
  simp [hj]) (by rw [zF];simp) acP (by rw [zF];exact amD) hl
 have:=mH (E:=E) (md:=.any) (g:=ops.size-(ops.size-tl)) (Q:=Q) (m:=n) hd (fun bL st a' w' hL mM=>by
  obtain⟨h1,h2⟩:=hL
  have h3:=hT _ a' w' h2 (mM.mono fun v hv=>by have:=TB hv;simpa using this)
  have h4:=wpAny_of_seq (md:=.any) (Q':=Q) (ops.toList.drop (ops.size-tl)) (ops.size-tl) bL a' w' (fun j=>by simp [List.getElem?_drop]) (by rw [hdl];exact h1) h3
  rwa [hdl]at h4) _ _ _ _ _ (by simp) H (hU0 _ _)
 rw [zF,show ops.size-tl+(ops.size-(ops.size-tl))=ops.size by omega]at this
 exact this
end
theorem W.avR{E:Env}{n:Nat}{tl:Nat→Nat}{Q:PX→PS→Prop}{f:Nat→PV}{rows:Rows}{clk:Nat}{id:Nat}{ops:List Oper}{y:Code}(m:Nat){o:Oper}{r:List Oper}(hm:tl id=m+1)(ho:ops.drop (ops.length-(m+1))=o::r)(hg:o.guard=none)
  (h:∀K:PS→Prop,(∀σ,W E n tl y Q σ→K σ)→go (aT E ops clk 0 (ops.take (ops.length-(m+1))) (fun σ=>G8 E o (aQ E ops r K) σ) ⟨f,rows,fun _ _=>False,fun _ _=>False⟩)):W E n tl (.seq (.region id ops.toArray true) y) Q ⟨f,rows,clk⟩:=by
 refine W.seq ?_
 intro iI w0 S0 G a w Q' hR hQ
 have apG:s6 E n (tl id) ops.toArray true=true:=by simpa [fO]using iI
 have hd:∀o∈ops,∀t,o.dst=some t→t<n:=fun o ho t ht=>by
  simp only [s6,Bool.and_eq_true]at apG
  have:=Array.all_eq_true_iff_forall_mem.1 apG.1 o (by simpa using ho)
  simpa [ht]using this
 have h1:=h (fun σ=>W E n tl y Q σ) fun _ h=>h
 have vZ:∀x∈o::r,x∈ops:=fun x hx=>by rw [←ho]at hx;exact List.mem_of_mem_drop hx
 refine HI (T:=fun σ=>G8 E o (aQ E ops r (fun σ=>W E n tl y Q σ)) σ) apG (by omega) (by rw [hm];exact h1) hR fun σ' a' w' hT mM=>?_
 rw [hm]
 have e:ops.toArray.toList.drop (ops.toArray.size-(m+1))=o::r:=by simpa using ho
 rw [e]
 unfold wpList
 rw [if_pos (by simp [Region.wanted,hg])]
 refine .inl (wP hT mM (hd o (vZ o (by simp))) fun σ2 a2 w2 hk hR2=>?_)
 exact iT (E:=E) (ops:=ops.toArray) (fun σ3 a3 w3 hk3 hR3=>hQ .normal σ3 a3 w3 hk3 hR3) _ σ2 a2 w2 (fun o ho=>hd o (vZ o (by simp [ho]))) hk hR2
end Pm
namespace Go.Proofs.YtelhfbikiccfkaaGreat
open Go Pm
open ZX hiding N W
theorem gR{α β:Type}{c:Prop}[Decidable c](f g:α→β)(x:α):(if c then f else g) x=if c then f x else g x:=by split<;>rfl
def SE(v:Rat→Nat):Nat→Rat→Rat→List (Rat × Rat)
 | 0,lo,hi=>if v lo=v hi then []else [(lo,hi)]
 | k+1,lo,hi=>if v lo=v hi then []else if v lo=v hi+1 then [(lo,hi)]else SE v k lo ((lo+hi)/2)++SE v k ((lo+hi)/2) hi
theorem pS{lo hi:Rat}(h:lo<hi):lo<(lo+hi)/2∧(lo+hi)/2<hi:=by
 have h1:(lo+hi)/2*2=lo+hi:=Rat.div_mul_cancel (by decide)
 exact⟨by grind,by grind⟩
theorem yW{lo hi δ:Rat}{k:Nat}(h:hi-lo≤δ*2^(k+1)):(lo+hi)/2-lo≤δ*2^k∧hi-(lo+hi)/2≤δ*2^k:=by
 have h1:(lo+hi)/2*2=lo+hi:=Rat.div_mul_cancel (by decide)
 rw [Rat.pow_succ]at h
 generalize (2:Rat)^k=p at *
 exact⟨by grind,by grind⟩
structure Gr(D:Nat)(B:Rat)(j:Nat)(q:Rat):Prop where
 z:∃z:Int,q*((D*2^j:Nat):Int)=(z:Rat)
 b:Ab q B
theorem Gr.mono{D:Nat}{B q:Rat}{i j:Nat}(h:Gr D B i q)(hij:i≤j):Gr D B j q:=by
 obtain⟨⟨z,hz⟩,hb⟩:=h
 obtain⟨k,rfl⟩:∃k,j=i+k:=⟨j-i,by omega⟩
 refine⟨⟨z*(2^k:Nat),?_⟩,hb⟩
 rw [Rat.intCast_mul,←hz,Nat.pow_add,←Nat.mul_assoc,Int.natCast_mul (D*2^i),Rat.intCast_mul]
 grind
theorem Gr.GK{D:Nat}{B p q:Rat}{j:Nat}(hp:Gr D B j p)(hq:Gr D B j q):Gr D B (j+1) ((p+q)/2):=by
 obtain⟨⟨y,hy⟩,b1,b2⟩:=hp
 obtain⟨⟨z,hz⟩,b3,b4⟩:=hq
 have h1:(p+q)/2*2=p+q:=Rat.div_mul_cancel (by decide)
 refine⟨⟨y+z,?_⟩,by grind,by grind⟩
 rw [Rat.intCast_add,←hy,←hz,Nat.pow_succ,←Nat.mul_assoc,Int.natCast_mul (D*2^j),Rat.intCast_mul]
 have h2:(((2:Nat):Int):Rat)=2:=rfl
 rw [h2]
 generalize (((D*2^j:Nat):Int):Rat)=M at *
 grind
theorem Gr.sq{D d β j:Nat}{q:Rat}(h:Gr D (2^β) j q)(h0:1≤D)(hD:D≤2^d):SQ (β+d+j+1) q:=by
 obtain⟨⟨z,hz⟩,hb⟩:=h
 have hM:1≤D*2^j:=Nat.mul_pos h0 (Nat.two_pow_pos _)
 have hM2:D*2^j≤2^(d+j):=by rw [Nat.pow_add];exact Nat.mul_le_mul_right _ hD
 have hMq:(0:Rat)<(((D*2^j:Nat):Int):Rat):=Rat.intCast_pos.2 (by omega)
 have hzb:z.natAbs≤2^(β+d+j):=by
  have h1:Ab (z:Rat) (((2^β*(D*2^j):Nat):Int):Rat):=by
   rw [←hz,Int.natCast_mul (2^β),Rat.intCast_mul,MG]
   exact hb.mul ⟨by grind,Rat.le_refl⟩
  obtain⟨h2,h3⟩:=h1
  rw [←Rat.intCast_neg]at h2
  have h4:=Rat.intCast_le_intCast.1 h2
  have h5:=Rat.intCast_le_intCast.1 h3
  have h6:2^β*(D*2^j)≤2^(β+d+j):=by
   rw [Nat.add_assoc,Nat.pow_add];exact Nat.mul_le_mul_left _ hM2
  omega
 have e:=MA (n:=z) (d:=((D*2^j:Nat):Int)) (by omega) hz.symm
 have kQ:((D*2^j:Nat):Int)≠0:=by omega
 have OX:=rB z ((D*2^j:Nat):Int) kQ
 have NJ:=rC z ((D*2^j:Nat):Int) kQ
 rw [if_neg (by omega)]at OX NJ
 rw [e]at OX NJ
 have b1:q.num.natAbs≤z.natAbs:=by rw [OX];exact Int.natAbs_ediv_le_natAbs _ _
 have b2:((q.den:Int)).natAbs≤D*2^j:=by rw [NJ];exact Nat.le_trans (Int.natAbs_ediv_le_natAbs _ _) (by omega)
 have hp:∀i,2^i<2^(i+1):=fun i=>Nat.pow_lt_pow_right (by decide) (by omega)
 refine⟨cQ (by decide) (Nat.lt_of_le_of_lt (Nat.le_trans b1 hzb) (hp _)),cQ (by decide) (Nat.lt_of_le_of_lt (Nat.le_trans b2 hM2) ?_),by omega⟩
 exact Nat.pow_lt_pow_right (by decide) (by omega)
structure Cut(v:Rat→Nat)(B δ:Rat):Prop where
 b8:∀a b,a≤b→v b≤v a
 qU:∀a b,Ab a B→Ab b B→a<b→b-a≤δ→v a≤v b+1
theorem Cut.leaf{v:Rat→Nat}{B δ:Rat}(C:Cut v B δ){lo hi:Rat}(GR:Ab lo B)(RY:Ab hi B)(h:lo<hi)(hd:hi-lo≤δ)(kQ:v lo≠v hi):v lo=v hi+1:=by
 have:=C.qU lo hi GR RY h hd
 have:=C.b8 lo hi (Rat.le_of_lt h)
 omega
theorem rR{v:Rat→Nat}{D:Nat}{B δ:Rat}(C:Cut v B δ):∀(k j:Nat) (lo hi:Rat),Gr D B j lo→Gr D B j hi→lo<hi→hi-lo≤δ*2^k →
  (∀p∈SE v k lo hi,Gr D B (j+k) p.1∧Gr D B (j+k) p.2∧lo≤p.1∧p.1<p.2∧p.2≤hi∧v p.1=v p.2+1)∧(SE v k lo hi).length=v lo-v hi∧(SE v k lo hi).Pairwise fun p q=>p.2≤q.1
 | 0,j,lo,hi,g1,g2,h,hd=>by
  rw [SE]
  split
  ·rename_i he
   exact⟨fun p hp=>absurd hp List.not_mem_nil,by rw [he];simp,List.Pairwise.nil⟩
  ·rename_i he
   have:=C.leaf g1.b g2.b h (by rw [Rat.pow_zero,Rat.mul_one]at hd;exact hd) he
   refine⟨fun p hp=>?_,by simp;omega,List.pairwise_singleton _ _⟩
   rw [List.mem_singleton]at hp;subst hp
   exact⟨g1,g2,Rat.le_refl,h,Rat.le_refl,this⟩
 | k+1,j,lo,hi,g1,g2,h,hd=>by
  rw [SE]
  split
  ·rename_i he
   exact⟨fun p hp=>absurd hp List.not_mem_nil,by rw [he];simp,List.Pairwise.nil⟩
  ·rename_i he
   split
   ·rename_i GL
    refine⟨fun p hp=>?_,by simp;omega,List.pairwise_singleton _ _⟩
    rw [List.mem_singleton]at hp;subst hp
    exact⟨g1.mono (by omega),g2.mono (by omega),Rat.le_refl,h,Rat.le_refl,GL⟩
   ·obtain⟨m1,m2⟩:=pS h
    obtain⟨d1,d2⟩:=yW hd
    have gm:=g1.GK g2
    obtain⟨a1,a2,a3⟩:=rR C k (j+1) lo ((lo+hi)/2) (g1.mono (by omega)) gm m1 d1
    obtain⟨b1,b2,b3⟩:=rR C k (j+1) ((lo+hi)/2) hi gm (g2.mono (by omega)) m2 d2
    have n1:=C.b8 lo ((lo+hi)/2) (Rat.le_of_lt m1)
    have n2:=C.b8 ((lo+hi)/2) hi (Rat.le_of_lt m2)
    rw [show j+1+k=j+(k+1)by omega]at a1 b1
    generalize (lo+hi)/2=m at *
    refine⟨fun p hp=>?_,by rw [List.length_append,a2,b2];omega,List.pairwise_append.2 ⟨a3,b3,fun p hp q hq=>?_⟩⟩
    ·rcases List.mem_append.1 hp with hp | hp
     ·obtain⟨c1,c2,c3,c4,c5,c6⟩:=a1 p hp
      exact⟨c1,c2,c3,c4,by grind,c6⟩
     ·obtain⟨c1,c2,c3,c4,c5,c6⟩:=b1 p hp
      exact⟨c1,c2,by grind,c4,c5,c6⟩
    ·obtain⟨c1,c2,c3,c4,c5,c6⟩:=a1 p hp
     obtain⟨d1,d2,d3,d4,d5,d6⟩:=b1 q hq
     grind
theorem SQ.mono{u w:Nat}{q:Rat}(h:SQ u q)(hu:u≤w):SQ w q:=⟨Nat.le_trans h.n2 hu,Nat.le_trans h.d2 hu,Nat.le_trans h.hu hu⟩
theorem SQ.LLs{u:Nat}{q:Rat}(h:SQ u q){k:Nat}(hu:u≤k):sz LL q.num≤k∧sz LL (q.den:Int)≤k:=⟨Nat.le_trans h.nL hu,Nat.le_trans h.dL hu⟩
theorem SQ.LLt{u:Nat}{q:Rat}(h:SQ u q){k:Nat}(hu:u<k):sz LL q.num<k∧sz LL (q.den:Int)<k:=⟨Nat.lt_of_le_of_lt h.nL hu,Nat.lt_of_le_of_lt h.dL hu⟩
structure lL(s n:Nat)(f:ZX):Prop where
 lay:sM s n f
 lT:1≤n
 nf:Nf f
 sq:Go.Proofs.YtelhfbikiccfkaaGreat.sq f=f
 hs:s≤5000000
namespace lL
variable {s n:Nat} {f:ZX} (I:lL s n f)
include I
theorem ch:Ch s n f:=⟨I.lay.bz,I.lay.hn,I.lT,Nat.le_trans (Nat.mul_le_mul_right _ (by unfold qb;omega)) I.lay.hC⟩
theorem s1:1≤s:=by
 have h1:=I.lay.hs
 have h2:=I.lT
 rcases Nat.eq_zero_or_pos s with h | h
 ·rw [h]at h1;simp at h1;omega
 ·exact h
theorem hb:∀p∈aR f,BZ 4500000000 n p:=I.ch.all.1
theorem hl:(aR f).length≤21:=I.ch.all.2
theorem gz1:gz f (b9 f)=1:=by
 have:=ZD I.nf.ne
 rwa [I.sq]at this
theorem DC:sN f (b9 f):=fun d h1 h2=>by
 have h3:=(eJ f (b9 f)).least h1 h2
 rw [I.gz1]at h3
 have:=h3.mD ZX.oI
 rwa [ZX.r9]at this
theorem abB:CP (aR f) f:=I.ch.abB I.nf.ne I.gz1
theorem S:sE f (vt (aR f)):=⟨I.nf.ne,I.DC,_,I.abB,rfl⟩
theorem szf:∀c∈f.l,c.natAbs≤2^s:=fun c hc=>by
 have h1:=iK (b:=2) (by decide) c
 have h2:=Nat.pow_le_pow_right (show 0<2 by decide) (I.ch.bz.sz c hc)
 omega
theorem cut(β:Nat):∃δ:Rat,0<δ∧δ*2^lk s n 5 β=1∧Cut (vt (aR f)) (2^β) δ:=by
 obtain⟨δ,h1,h2⟩:=F0 (lk s n 5 β)
 have hn:=I.ch.hn
 obtain⟨h3,_⟩:=u7 I.abB (s:=s) (n:=n) (l:=5) (β:=β) I.nf.ne I.szf I.ch.bz.N (by omega) I.DC (by rw [h2];exact Rat.le_refl)
 refine⟨δ,h1,h2,fun a b gW=>I.abB.b8 gW,fun a b ha hb gW hd=>?_⟩
 have:=h3.turns a b ha hb gW hd
 rcases MH f a b with h4 | h4<;>omega
end lL
section
variable {c:List ZX} {n u:Nat} {p q:Rat} (hb:∀p∈c,BZ 4500000000 n p) (hn:n≤20) (hl:c.length≤21) (hp:SQ u p) (hq:SQ u q) (hu:u≤1000000000)
include hb hn hl hp hq hu
theorem afJ:aD env.P 92 [CH c,RT p,RT q] (.int .i64 (if q<p then 0 else(vt c p:Int)-vt c q)):=by
 have z1:=dI hq.nL hq.dL hp.nL hp.dL (by omega) (bB q) (bB p) ⟨hq.nL,hq.dL⟩ ⟨hp.nL,hp.dL⟩
 have b1:=L6 (by omega) z1 (afx hb hn hl hp hu) (afx hb hn hl hq hu)
 rw [FU,FU]at b1
 simp only [kG]at b1
 exact b1
theorem VT:aD env.P 80 [aG zq c,RR p,RR q] (.int .i64 (if q<p then 0 else(vt c p:Int)-vt c q)):=by
 have yy:∀ {v:Int},sz 2 v≤u→sz 2 v≤YY:=fun h=>by simp only [YY];omega
 have b1:=QY (yy hp.n2) (yy hp.d2) (yy hq.n2) (yy hq.d2) (by omega) (afw hb hn hl hp hu) (afw hb hn hl hq hu)
 have hcm:(q.num*(p.den:Int)<p.num*(q.den:Int))=(q<p):=propext (by rw [←kG];exact n6.symm)
 rw [FU,FU]at b1
 simp only [hcm]at b1
 rw [cS,cS]
 exact b1
end
abbrev tc(q:Rat):List PV:=[.bool (decide (q.num<0)),us (aP LL q.num.natAbs), .bool (decide ((q.den:Int)<0)),us (aP LL (q.den:Int).natAbs)]
def ga(f:ZX)(p:Rat × Rat):List PV:=Po f.l::(tc p.1++tc p.2)
@[simp] theorem aA5{f:ZX}{p:Rat × Rat}:ga f p=Po f.l::(tc p.1++tc p.2):=rfl
@[simp] theorem AR{f:ZX}{l:List (Rat × Rat)}:bT 9 (emap (ga f) l)=True:=cY fun _=>rfl
@[simp] theorem apI{v e n:Nat}{f:ZX}{l:List (Rat × Rat)}:dG (some ⟨v,e,n,emap (ga f) l⟩)=True:=cN fun _=>rfl
theorem MI{f:ZX}{l:List (Rat × Rat)}:∀x∈emap (ga f) l,∀p∈x,dB p=true:=fun x hx p hp=>by
 simp only [emap,List.mem_map]at hx
 obtain⟨r,_,rfl⟩:=hx
 simp at hp
 rcases hp with rfl | rfl | rfl | rfl | rfl | rfl | rfl | rfl | rfl<;>rfl
theorem afK{f:ZX}{c:List ZX}{lo hi:Rat}:iX env.P 76 [Po f.l,CH c,RT lo,RT hi, .int .i64 0] 54 9 []:=by
 show iX env.P _ [Po f.l, .rd [aG zp c],T2 lo.num lo.den,T2 hi.num hi.den, .int .i64 0] _ _ _
 generalize lo.num=ln at *
 generalize (lo.den:Int)=ld at *
 generalize hi.num=hn at *
 generalize (hi.den:Int)=hd at *
 generalize aG zp c=X at *
 refine jY (E:=env) (fun id=>if id=5 then 2 else if id=8 then 2 else 0) (t:=10) [(0,Po f.l),(1, .rd [X]),(2,T2 ln ld),(3,T2 hn hd),(4, .int .i64 0)] Tryz.func76 rfl (by kernel_rfl) (by kernel_rfl) (show 5≤48 by decide) rfl (by simp) ?_
 refine aA [0,1,4,7,8] ?_
 refine aM [0,1,4,7,8,13] ?_
 refine W.block ?_
 refine aA [0,1,4,7,8,13,14] ?_
 refine bF ?_ ?_<;>intro h
 ·refine aA [10] ?_
  refine W.nil 10 10 54 9 (by simp) (by decide) (fun K hK=>?_)
  simp
  refine hK _ ?_
  refine W.ret ?_
  exact⟨10,_,by simp;exact rfl,by simp,fun x hx=>by cases hx⟩
 ·simp at h
theorem ajw{s n:Nat}{f:ZX}(I:lL s n f){c:List ZX}{lo hi:Rat}{u:Nat}(q1:SQ u lo)(q2:SQ u hi)(hu:u≤1000000000):iX env.P 76 [Po f.l,CH c,RT lo,RT hi, .int .i64 1] 54 9 (emap (ga f) [(lo,hi)]):=by
 have N1:=fR (x:=f.l) (I.ch.bz.pb (by have:=I.hs;omega) (by have:=I.ch.hn;omega))
 rw [f.c]at N1
 obtain⟨l1,l2⟩:=q1.LLt (show u<1099511627770 by omega)
 obtain⟨l3,l4⟩:=q2.LLt (show u<1099511627770 by omega)
 have M1:=yS l1 l2
 have M2:=yS l3 l4
 rw [bB]at M1 M2
 rw [show emap (ga f) [(lo,hi)] = [Po f.l::(tc lo++tc hi)]from rfl]
 show iX env.P _ [Po f.l, .rd [aG zp c],T2 lo.num lo.den,T2 hi.num hi.den, .int .i64 1] _ _ _
 replace M1:aD env.P 94 [T2 lo.num lo.den, .sl []] (T2 lo.num lo.den):=M1
 replace M2:aD env.P 94 [T2 hi.num hi.den, .sl []] (T2 hi.num hi.den):=M2
 clear l1 l2 l3 l4 q1 q2
 simp only [tc]
 generalize lo.num=ln at *
 generalize (lo.den:Int)=ld at *
 generalize hi.num=hn at *
 generalize (hi.den:Int)=hd at *
 generalize aG zp c=X at *
 refine jY (E:=env) (fun id=>if id=5 then 2 else if id=8 then 2 else 0) (t:=10) [(0,Po f.l),(1, .rd [X]),(2,T2 ln ld),(3,T2 hn hd),(4, .int .i64 1)] Tryz.func76 rfl (by kernel_rfl) (by kernel_rfl) (show 5≤48 by decide) rfl (by simp) ?_
 refine aA [0,1,4,7,8] ?_
 refine aM [0,1,4,7,8,13] ?_
 refine W.block ?_
 refine aA [0,1,4,7,8,13,14] ?_
 refine bF ?_ ?_<;>intro h
 ·simp at h
 ·refine aA [0,1,4,7,8,16] ?_
  refine bF ?_ ?_<;>intro h
  ·refine W.avR 1 rfl rfl rfl (fun K hK=>?_)
   simp (disch:=omega) [gw]
   refine bW N1 ?_
   refine bW M1 ?_
   refine bW M2 ?_
   refine W.lw [10] hK ?_;clear hK K;simp
   refine W.ret ?_
   exact⟨25,_,by simp;exact rfl,by simp,fun x hx p hp=>by
    simp at hx;subst hx
    simp at hp
    rcases hp with rfl | rfl | rfl | rfl | rfl | rfl | rfl | rfl | rfl<;>rfl⟩
  ·simp at h
theorem afL{f:ZX}{c:List ZX}{lo hi:Rat}{n k:Int}{la lb:List (Rat × Rat)}(hn:2≤n∧n≤21)(hk:0≤k∧k≤n)(T9:la.length≤21)(hlb:lb.length≤21)
  (M:aD env.P 95 [RT lo,RT hi] (RT ((lo+hi)/2))) (B:aD env.P 92 [CH c,RT lo,RT ((lo+hi)/2)] (.int .i64 k))
  (h1:iX env.P 76 [Po f.l,CH c,RT lo,RT ((lo+hi)/2), .int .i64 k] 54 9 (emap (ga f) la)) (h2:iX env.P 76 [Po f.l,CH c,RT ((lo+hi)/2),RT hi, .int .i64 (n-k)] 54 9 (emap (ga f) lb)) :
  iX env.P 76 [Po f.l,CH c,RT lo,RT hi, .int .i64 n] 54 9 (emap (ga f) (la++lb)):=by
 rw [←BH]
 have el1:(emap (ga f) la).length≤21:=by simpa [emap]using T9
 have el2:(emap (ga f) lb).length≤21:=by simpa [emap]using hlb
 have p1:=MI (f:=f) (l:=la)
 have p2:=MI (f:=f) (l:=lb)
 have a1:bT 9 (emap (ga f) la)=True:=AR
 have a2:bT 9 (emap (ga f) lb)=True:=AR
 show iX env.P _ [Po f.l, .rd [aG zp c],T2 lo.num lo.den,T2 hi.num hi.den, .int .i64 n] _ _ _
 replace M:aD env.P 95 [T2 lo.num lo.den,T2 hi.num hi.den] (T2 ((lo+hi)/2).num ((lo+hi)/2).den):=M
 replace B:aD env.P 92 [.rd [aG zp c],T2 lo.num lo.den,T2 ((lo+hi)/2).num ((lo+hi)/2).den] (.int .i64 k):=B
 replace h1:iX env.P 76 [Po f.l, .rd [aG zp c],T2 lo.num lo.den,T2 ((lo+hi)/2).num ((lo+hi)/2).den, .int .i64 k] 54 9 (emap (ga f) la):=h1
 replace h2:iX env.P 76 [Po f.l, .rd [aG zp c],T2 ((lo+hi)/2).num ((lo+hi)/2).den,T2 hi.num hi.den, .int .i64 (n-k)] 54 9 (emap (ga f) lb):=h2
 generalize ((lo+hi)/2).num=mn at *
 generalize (((lo+hi)/2).den:Int)=md at *
 generalize lo.num=ln at *
 generalize (lo.den:Int)=ld at *
 generalize hi.num=xL at *
 generalize (hi.den:Int)=hd at *
 generalize aG zp c=X at *
 generalize emap (ga f) la=ea at *
 generalize emap (ga f) lb=eb at *
 have w1:IntKind.wrap .i64 (n-k)=n-k:=wrap_i64 (by omega) (by omega)
 refine jY (E:=env) (fun id=>if id=5 then 2 else if id=8 then 2 else 0) (t:=10) [(0,Po f.l),(1, .rd [X]),(2,T2 ln ld),(3,T2 xL hd),(4, .int .i64 n)] Tryz.func76 rfl (by kernel_rfl) (by kernel_rfl) (show 5≤48 by decide) rfl (by simp) ?_
 refine aA [0,1,4,7,8] ?_
 refine aM [0,1,4,7,8,13] ?_
 refine W.block ?_
 refine aA [0,1,4,7,8,13,14] ?_
 refine bF ?_ ?_<;>intro h
 ·simp at h;omega
 ·refine aA [0,1,4,7,8,16] ?_
  refine bF ?_ ?_<;>intro h
  ·simp at h;omega
  ·refine W.skip ?_
   refine aJ [0,1,4,7,8,11] M ?_
   refine aJ [0,1,4,7,8,11,12] B ?_
   refine W.sd ?_
   rw [show(if 8=5 then 2 else if 8=8 then 2 else 0)=1+1 from rfl,fF]
   simp (disch:=omega) [gw]
   refine H6 h1 rfl trivial ?_
   simp (disch:=omega) [gw,w1,gR]
   refine H6 h2 rfl trivial ?_
   simp (disch:=omega) [gw,a1,a2,gR]
   refine bN [10] ?_
   refine W.ret ?_
   exact⟨38,5,by simp,by simp,fun x hx=>by
    rcases List.mem_append.1 hx with hx | hx
    ·exact p1 x hx
    ·exact p2 x hx⟩
theorem afM{s n:Nat}{f:ZX}(I:lL s n f){D d β J:Nat}{δ:Rat}(vA:1≤D)(hD:D≤2^d)(C:Cut (vt (aR f)) (2^β) δ)(hu:β+d+J+1≤1000000000):∀(k j:Nat) (lo hi:Rat),j+k≤J→Gr D (2^β) j lo→Gr D (2^β) j hi→lo<hi→hi-lo≤δ*2^k →
  iX env.P 76 [Po f.l,CH (aR f),RT lo,RT hi, .int .i64 ((vt (aR f) lo:Int)-vt (aR f) hi)] 54 9 (emap (ga f) (SE (vt (aR f)) k lo hi)):=by
 have leaf:∀(j:Nat) (lo hi:Rat),j≤J→Gr D (2^β) j lo→Gr D (2^β) j hi→vt (aR f) lo=vt (aR f) hi+1→iX env.P 76 [Po f.l,CH (aR f),RT lo,RT hi, .int .i64 ((vt (aR f) lo:Int)-vt (aR f) hi)] 54 9 (emap (ga f) [(lo,hi)]):=fun j lo hi hj g1 g2 he=>by
  rw [show(vt (aR f) lo:Int)-vt (aR f) hi=1 by omega]
  exact ajw I ((g1.mono hj).sq vA hD) ((g2.mono hj).sq vA hD) hu
 have Q8:∀(lo hi:Rat),vt (aR f) lo=vt (aR f) hi→iX env.P 76 [Po f.l,CH (aR f),RT lo,RT hi, .int .i64 ((vt (aR f) lo:Int)-vt (aR f) hi)] 54 9 (emap (ga f) []):=fun lo hi he=>by
  rw [show(vt (aR f) lo:Int)-vt (aR f) hi=0 by omega]
  exact afK
 intro k
 induction k with
 | zero =>
  intro j lo hi hj g1 g2 c8 hd
  rw [SE]
  by_cases he:vt (aR f) lo=vt (aR f) hi
  ·rw [if_pos he];exact Q8 lo hi he
  ·rw [if_neg he];exact leaf j lo hi (by omega) g1 g2 (C.leaf g1.b g2.b c8 (by rw [Rat.pow_zero,Rat.mul_one]at hd;exact hd) he)
 | succ k ih =>
  intro j lo hi hj g1 g2 c8 hd
  rw [SE]
  by_cases he:vt (aR f) lo=vt (aR f) hi
  ·rw [if_pos he];exact Q8 lo hi he
  ·rw [if_neg he]
   by_cases GL:vt (aR f) lo=vt (aR f) hi+1
   ·rw [if_pos GL];exact leaf j lo hi (by omega) g1 g2 GL
   ·rw [if_neg GL]
    obtain⟨m1,m2⟩:=pS c8
    obtain⟨d1,d2⟩:=yW hd
    have gm:=g1.GK g2
    have n1:=C.b8 lo ((lo+hi)/2) (Rat.le_of_lt m1)
    have n2:=C.b8 ((lo+hi)/2) hi (Rat.le_of_lt m2)
    have hv1:=Nat.le_trans (afz (aR f) lo) I.hl
    obtain⟨_,a2,_⟩:=rR C k (j+1) lo ((lo+hi)/2) (g1.mono (by omega)) gm m1 d1
    obtain⟨_,b2,_⟩:=rR C k (j+1) ((lo+hi)/2) hi gm (g2.mono (by omega)) m2 d2
    have r1:=ih (j+1) lo ((lo+hi)/2) (by omega) (g1.mono (by omega)) gm m1 d1
    have r2:=ih (j+1) ((lo+hi)/2) hi (by omega) gm (g2.mono (by omega)) m2 d2
    have q1:SQ (β+d+J+1) lo:=(g1.mono (by omega)).sq vA hD
    have q2:SQ (β+d+J+1) hi:=(g2.mono (by omega)).sq vA hD
    have q3:SQ (β+d+J+1) ((lo+hi)/2):=(gm.mono (by omega)).sq vA hD
    have hM:=Q5 (q1.LLs (Nat.le_refl _)) (q2.LLs (Nat.le_refl _)) (by omega)
    have hB:=afJ I.hb I.ch.hn I.hl q1 q3 hu
    rw [if_neg (Rat.not_lt.2 (Rat.le_of_lt m1))]at hB
    refine afL (n:=(vt (aR f) lo:Int)-vt (aR f) hi) (k:=(vt (aR f) lo:Int)-vt (aR f) ((lo+hi)/2)) (by omega) (by omega) (by omega) (by omega) hM hB r1 ?_
    rw [show(vt (aR f) lo:Int)-vt (aR f) hi-((vt (aR f) lo:Int)-vt (aR f) ((lo+hi)/2))=(vt (aR f) ((lo+hi)/2):Int)-vt (aR f) hi by omega]
    exact r2
end Go.Proofs.YtelhfbikiccfkaaGreat
namespace Go.Proofs.YtelhfbikiccfkaaGreat
open Go Pm
open ZX hiding N W
theorem SQ.tor{u:Nat}{p:Rat}(hp:SQ u p)(hu:u≤YY):aD env.P 24 [RR p] (RT p):=by
 rw [cS]
 have h1:=hp.n2;have h2:=hp.d2
 exact ajm (by simp only [Z,YY]at *;omega) (by simp only [Z,YY]at *;omega)
theorem F3{S τ t:Rat}(hS:0≤S)(hτ:0<τ)(ht:lK τ t):∀ {x:List Int},Cn x→0<x.length→(∀c∈x.dropLast,Ab (c:Rat) S)→S+(((lead x).natAbs:Int):Rat)≤(((lead x).natAbs:Int):Rat)*τ→lK (((lead x).natAbs:Int):Rat) (qv t x)
 | [a],hc,_,_,_=>by
  have e1:qv t [a]=(a:Rat):=by simp only [qv];grind
  have e2:lead [a]=a:=rfl
  rw [e1,e2]
  by_cases h:0≤a
  ·right
   exact Rat.intCast_le_intCast.2 (by omega)
  ·left
   rw [←Rat.intCast_neg]
   exact Rat.intCast_le_intCast.2 (by omega)
 | a::b::l,hc,_,hb,hL=>by
  have hl:=dK (C8 hc) (by simp)
  rw [AH]at hL ⊢
  have ih:=F3 hS hτ ht (C8 hc) (by simp) (fun c hc=>hb c (by
   rw [List.dropLast_cons_of_ne_nil (by simp)];exact List.mem_cons_of_mem _ hc)) hL
  obtain⟨h4,h5⟩:=hb a (by rw [List.dropLast_cons_of_ne_nil (by simp)];simp)
  have e1:qv t (a::b::l)=a+t*qv t (b::l):=rfl
  have hp:(0:Rat)<(((lead (b::l)).natAbs:Int):Rat):=Rat.intCast_pos.2 (by omega)
  have hm:=lK.mul hτ hp ht ih
  rw [e1]
  generalize (((lead (b::l)).natAbs:Int):Rat)=L at *
  rcases hm with h | h
  ·left;grind
  ·right;grind
theorem rS{x:List Int}(cx:Cn x)(hx:x ≠ []){t:Rat}(ht:lK (i7 x) t):lK 1 (qv t x)∧1≤i7 x:=by
 have pL:=List.length_pos_iff.2 hx
 have hl:=dK cx pL
 have hL:(1:Rat)≤(((lead x).natAbs:Int):Rat):=fK (by omega)
 have hm:(0:Rat)≤((mG x (x.length-1):Int):Rat):=Rat.intCast_nonneg.2 (afB _ _)
 have e:=AM cx hx
 have h2:=Rat.div_mul_cancel (a:=((mG x (x.length-1):Int):Rat)) (b:=(((lead x).natAbs:Int):Rat)) (by grind)
 have hw:(0:Rat)≤((mG x (x.length-1):Int):Rat)/(((lead x).natAbs:Int):Rat):=by
  refine Rat.not_lt.1 fun h=>?_
  have:=Rat.mul_le_mul_of_nonneg_left hL (show 0 ≤ -(((mG x (x.length-1):Int):Rat)/(((lead x).natAbs:Int):Rat))by grind)
  grind
 have h1:1≤i7 x:=by rw [e];grind
 refine⟨(F3 hm (show 0<i7 x by grind) ht cx pL (fun c hc=>?_) ?_).mono hL,h1⟩
 ·obtain⟨k,hk,rfl⟩:=List.mem_iff_getElem.1 hc
  rw [List.length_dropLast]at hk
  have h3:=afC x (x.length-1) k hk
  rw [dE (by omega)]at h3
  rw [List.getElem_dropLast]
  constructor
  ·rw [←Rat.intCast_neg]
   exact Rat.intCast_le_intCast.2 (by omega)
  ·exact Rat.intCast_le_intCast.2 (by omega)
 ·rw [e]
  generalize ((mG x (x.length-1):Int):Rat)/(((lead x).natAbs:Int):Rat)=w at *
  grind
abbrev rc(q:Rat):List PV:=[aG aH (aP DD q.num.natAbs), .bool (decide (q.num<0)),aG aH (aP DD (q.den:Int).natAbs), .bool (decide ((q.den:Int)<0))]
def qa(f:ZX)(c:List ZX)(p:Rat × Rat):List PV:=PI f.l::aG zq c::(rc p.1++rc p.2)
@[simp] theorem aA6{f:ZX}{c:List ZX}{p:Rat × Rat}:qa f c p=PI f.l::aG zq c::(rc p.1++rc p.2):=rfl
@[simp] theorem JF{f:ZX}{c:List ZX}{l:List (Rat × Rat)}:bT 10 (emap (qa f c) l)=True:=cY fun _=>rfl
@[simp] theorem apJ{v e n:Nat}{f:ZX}{c:List ZX}{l:List (Rat × Rat)}:dG (some ⟨v,e,n,emap (qa f c) l⟩)=True:=cN fun _=>rfl
theorem ZJ{f:ZX}{c:List ZX}{l:List (Rat × Rat)}:∀x∈emap (qa f c) l,∀p∈x,dB p=true:=fun x hx p hp=>by
 simp only [emap,List.mem_map]at hx
 obtain⟨r,_,rfl⟩:=hx
 simp at hp
 rcases hp with rfl | rfl | rfl | rfl | rfl | rfl | rfl | rfl | rfl | rfl<;>rfl
abbrev QA(f:ZX)(c:List ZX)(p:Rat × Rat):PV:=.ag (qa f c p)
def ex(f:ZX)(p:Rat × Rat):Rat × Rat:=if e p.2 f=0 then(p.2,p.2)else p
theorem SQ.yy{u:Nat}{q:Rat}(h:SQ u q)(hu:u≤1000000000):ZR YY q:=⟨by have:=h.n2;simp only [YY];omega,by have:=h.d2;simp only [YY];omega⟩
theorem jM{p q:Rat}:dQ (p.num*q.den) (q.num*p.den)=0↔p=q:=by
 have h1:=kG p q
 have h2:=kG q p
 rw [n6]at h1 h2
 refine⟨fun h=>?_,fun h=>?_⟩
 ·have h:=Pm.zT.1 h
  by_cases h3:p<q
  ·have:=h1.2 h3;omega
  ·rcases Rat.le_iff_lt_or_eq.1 (Rat.not_lt.1 h3)with h4 | h4
   ·have:=h2.2 h4;omega
   ·exact h4.symm
 ·rw [h];exact xR _
abbrev c4(n d:Int):List PV:=[aG aH (aP DD n.natAbs), .bool (decide (n<0)),aG aH (aP DD d.natAbs), .bool (decide (d<0))]
theorem VU{x:List Int}{c:List ZX}{ln ld hn hd z σ:Int}(hz:(z != 0)=false)(c1:aD env.P 15 [R2 ln ld,R2 hn hd] (.int .i64 z))(s1:aD env.P 81 [PI x,R2 hn hd] (.int .i64 σ)) :
  aD env.P 84 [.ag (PI x::aG zq c::(c4 ln ld++c4 hn hd))] (.ag (PI x::aG zq c::(c4 ln ld++c4 hn hd))):=by
 simp only [c4]
 refine b6 [(0, .ag (PI x::aG zq c :: [aG aH (aP DD ln.natAbs), .bool (decide (ln<0)),aG aH (aP DD ld.natAbs), .bool (decide (ld<0)),aG aH (aP DD hn.natAbs), .bool (decide (hn<0)),aG aH (aP DD hd.natAbs), .bool (decide (hd<0))]))] Tryz.func84 ?_
 refine aA [1,2] ?_
 refine W.seq ?_
 refine iM ?_
 refine aB c1 ?_
 simp (disch:=omega) [gw,hz]
 refine bN [1,2,16] ?_
 refine bF ?_ ?_<;>intro h
 ·simp at h
 ·refine W.skip ?_
  refine aA [2] ?_
  exact b7
theorem afN{x:List Int}{c:List ZX}{ln ld hn hd z σ:Int}(hz:(z != 0)=true)(hs:(σ==0)=false)(c1:aD env.P 15 [R2 ln ld,R2 hn hd] (.int .i64 z))(s1:aD env.P 81 [PI x,R2 hn hd] (.int .i64 σ)) :
  aD env.P 84 [.ag (PI x::aG zq c::(c4 ln ld++c4 hn hd))] (.ag (PI x::aG zq c::(c4 ln ld++c4 hn hd))):=by
 simp only [c4]
 refine b6 [(0, .ag (PI x::aG zq c :: [aG aH (aP DD ln.natAbs), .bool (decide (ln<0)),aG aH (aP DD ld.natAbs), .bool (decide (ld<0)),aG aH (aP DD hn.natAbs), .bool (decide (hn<0)),aG aH (aP DD hd.natAbs), .bool (decide (hd<0))]))] Tryz.func84 ?_
 refine aA [1,2] ?_
 refine W.seq ?_
 refine iM ?_
 refine aB c1 ?_
 simp (disch:=omega) [gw,hz]
 refine aB s1 ?_
 simp (disch:=omega) [gw,hs]
 refine bN [1,2,16] ?_
 refine bF ?_ ?_<;>intro h
 ·simp at h
 ·refine W.skip ?_
  refine aA [2] ?_
  exact b7
theorem abF{x:List Int}{c:List ZX}{ln ld hn hd z σ:Int}(hz:(z != 0)=true)(hs:(σ==0)=true)(c1:aD env.P 15 [R2 ln ld,R2 hn hd] (.int .i64 z))(s1:aD env.P 81 [PI x,R2 hn hd] (.int .i64 σ)) :
  aD env.P 84 [.ag (PI x::aG zq c::(c4 ln ld++c4 hn hd))] (.ag (PI x::aG zq c::(c4 hn hd++c4 hn hd))):=by
 simp only [c4]
 refine b6 [(0, .ag (PI x::aG zq c :: [aG aH (aP DD ln.natAbs), .bool (decide (ln<0)),aG aH (aP DD ld.natAbs), .bool (decide (ld<0)),aG aH (aP DD hn.natAbs), .bool (decide (hn<0)),aG aH (aP DD hd.natAbs), .bool (decide (hd<0))]))] Tryz.func84 ?_
 refine aA [1,2] ?_
 refine W.seq ?_
 refine iM ?_
 refine aB c1 ?_
 simp (disch:=omega) [gw,hz]
 refine aB s1 ?_
 simp (disch:=omega) [gw,hs]
 refine bN [1,2,16] ?_
 refine bF ?_ ?_<;>intro h
 ·refine W.cE (fun K hK=>?_);simp (disch:=omega) [gw]
  refine W.lw [1,2] hK ?_;clear hK K;simp
  refine aA [2] ?_
  exact b7
 ·simp at h
theorem oO{f:ZX}{c:List ZX}{p:Rat × Rat}:QA f c p = .ag (PI f.l::aG zq c::(c4 p.1.num p.1.den++c4 p.2.num p.2.den)):=rfl
theorem JG{f:ZX}{c:List ZX}{p:Rat × Rat}{n u:Nat}(hb:BZ 4500000000 n f)(hn:n≤20)(q1:SQ u p.1)(q2:SQ u p.2)(hu:u≤1000000000):aD env.P 84 [QA f c p] (QA f c (ex f p)):=by
 have c1:=mR p.1 p.2 (q1.yy hu) (q2.yy hu)
 have hmul:n*(u+1)≤20*(u+1):=Nat.mul_le_mul_right _ hn
 have s1:=u3 hb q2.n2 q2.d2 q2.hu (by omega) (by show _<137438953472;omega)
 rw [yT]at s1
 rw [cS,cS]at c1
 by_cases h:p.1=p.2
 ·have he:ex f p=p:=by
   unfold ex;split
   ·exact Prod.ext h.symm rfl
   ·rfl
  rw [he,oO]
  exact VU (by rw [jM.2 h];rfl) c1 s1
 ·have hz:(dQ (p.1.num*p.2.den) (p.2.num*p.1.den) != 0)=true:=bne_iff_ne.2 fun h0=>h (jM.1 h0)
  by_cases h2:e p.2 f=0
  ·rw [show ex f p=(p.2,p.2)from if_pos h2,oO,oO]
   exact abF hz (by rw [h2,iL];rfl) c1 s1
  ·rw [show ex f p=p from if_neg h2,oO]
   exact afN hz (by simp only [beq_eq_false_iff_ne];exact fun h0=>h2 (eU.1 h0)) c1 s1
theorem VV{f:ZX}{c:List ZX}{lo hi:Rat}(B:aD env.P 80 [aG zq c,RR lo,RR hi] (.int .i64 0)):iX env.P 181 [PI f.l,aG zq c,RR lo,RR hi] 49 10 []:=by
 rw [cS,cS]at B ⊢
 generalize lo.num=ln at *
 generalize (lo.den:Int)=ld at *
 generalize hi.num=hn at *
 generalize (hi.den:Int)=hd at *
 refine jY (E:=env) (fun id=>if id=7 then 2 else 0) (t:=8) [(0,PI f.l),(1,aG zq c),(2,R2 ln ld),(3,R2 hn hd)] Tryz.func181 rfl (by kernel_rfl) (by kernel_rfl) (show 4≤40 by decide) rfl (by simp) ?_
 refine aA [0,1,6,7] ?_
 refine aJ [0,1,6,7,9] B ?_
 refine aM [0,1,6,7,9,16] ?_
 refine bF ?_ ?_<;>intro h
 ·refine aA [8] ?_
  refine W.nil 8 8 49 10 (by simp) (by decide) (fun K hK=>?_)
  simp
  refine hK _ ?_
  refine W.ret ?_
  exact⟨8,_,by simp;exact rfl,by simp,fun x hx=>by cases hx⟩
 ·simp at h
theorem abG{f:ZX}{c:List ZX}{lo hi:Rat}(B:aD env.P 80 [aG zq c,RR lo,RR hi] (.int .i64 1))(X:aD env.P 84 [QA f c (lo,hi)] (QA f c (ex f (lo,hi)))):iX env.P 181 [PI f.l,aG zq c,RR lo,RR hi] 49 10 (emap (qa f c) [ex f (lo,hi)]):=by
 rw [show emap (qa f c) [ex f (lo,hi)] = [qa f c (ex f (lo,hi))]from rfl]
 rw [cS,cS]at *
 generalize hy:ex f (lo,hi)=y at *
 rw [oO,oO]at X
 rw [show qa f c y=PI f.l::aG zq c::(c4 y.1.num y.1.den++c4 y.2.num y.2.den)from rfl]
 simp only [c4,List.cons_append,List.nil_append]at X ⊢
 clear hy
 generalize y.1.num=an at *
 generalize (y.1.den:Int)=ad at *
 generalize y.2.num=bn at *
 generalize (y.2.den:Int)=bd at *
 generalize lo.num=ln at *
 generalize (lo.den:Int)=ld at *
 generalize hi.num=hn at *
 generalize (hi.den:Int)=hd at *
 refine jY (E:=env) (fun id=>if id=7 then 2 else 0) (t:=8) [(0,PI f.l),(1,aG zq c),(2,R2 ln ld),(3,R2 hn hd)] Tryz.func181 rfl (by kernel_rfl) (by kernel_rfl) (show 4≤40 by decide) rfl (by simp) ?_
 refine aA [0,1,6,7] ?_
 refine aJ [0,1,6,7,9] B ?_
 refine aM [0,1,6,7,9,16] ?_
 refine bF ?_ ?_<;>intro h
 ·simp at h
 refine W.skip ?_
 refine aM [0,1,6,7,18] ?_
 refine bF ?_ ?_<;>intro h
 ·refine W.X8 6 rfl rfl (fun K hK=>?_)
  simp (disch:=omega) [gw]
  refine bW X ?_
  refine W.lw [8] hK ?_;clear hK K;simp
  refine W.ret ?_
  exact⟨25,_,by simp;exact rfl,by simp,fun x hx p hp=>by
   simp at hx;subst hx
   simp at hp
   rcases hp with rfl | rfl | rfl | rfl | rfl | rfl | rfl | rfl | rfl | rfl<;>rfl⟩
 ·simp at h
theorem VW{f:ZX}{c:List ZX}{lo hi:Rat}{n:Int}{la lb:List (Rat × Rat)}(hn:2≤n∧n≤21)(T9:la.length≤21)(hlb:lb.length≤21)
  (M:aD env.P 209 [RR lo,RR hi] (RR ((lo+hi)/2))) (B:aD env.P 80 [aG zq c,RR lo,RR hi] (.int .i64 n))
  (h1:iX env.P 181 [PI f.l,aG zq c,RR lo,RR ((lo+hi)/2)] 49 10 (emap (qa f c) la)) (h2:iX env.P 181 [PI f.l,aG zq c,RR ((lo+hi)/2),RR hi] 49 10 (emap (qa f c) lb)) :
  iX env.P 181 [PI f.l,aG zq c,RR lo,RR hi] 49 10 (emap (qa f c) (la++lb)):=by
 rw [←BH]
 have el1:(emap (qa f c) la).length≤21:=by simpa [emap]using T9
 have el2:(emap (qa f c) lb).length≤21:=by simpa [emap]using hlb
 have p1:=ZJ (f:=f) (c:=c) (l:=la)
 have p2:=ZJ (f:=f) (c:=c) (l:=lb)
 have a1:bT 10 (emap (qa f c) la)=True:=JF
 have a2:bT 10 (emap (qa f c) lb)=True:=JF
 simp only [cS]at *
 generalize ((lo+hi)/2).num=mn at *
 generalize (((lo+hi)/2).den:Int)=md at *
 generalize lo.num=ln at *
 generalize (lo.den:Int)=ld at *
 generalize hi.num=xL at *
 generalize (hi.den:Int)=hd at *
 generalize emap (qa f c) la=ea at *
 generalize emap (qa f c) lb=eb at *
 refine jY (E:=env) (fun id=>if id=7 then 2 else 0) (t:=8) [(0,PI f.l),(1,aG zq c),(2,R2 ln ld),(3,R2 xL hd)] Tryz.func181 rfl (by kernel_rfl) (by kernel_rfl) (show 4≤40 by decide) rfl (by simp) ?_
 refine aA [0,1,6,7] ?_
 refine aJ [0,1,6,7,9] B ?_
 refine aM [0,1,6,7,9,16] ?_
 refine bF ?_ ?_<;>intro h
 ·simp at h;omega
 refine W.skip ?_
 refine aM [0,1,6,7,18] ?_
 refine bF ?_ ?_<;>intro h
 ·simp at h;omega
 refine W.skip ?_
 refine aJ [0,1,6,7,10] M ?_
 refine W.sd ?_
 rw [if_pos rfl,fF]
 simp (disch:=omega) [gw]
 refine H6 h1 rfl trivial ?_
 simp (disch:=omega) [gw,gR]
 refine H6 h2 rfl trivial ?_
 simp (disch:=omega) [gw,a1,a2,gR]
 refine bN [8] ?_
 refine W.ret ?_
 exact⟨33,_,by simp;exact rfl,by simp,fun x hx=>by
  rcases List.mem_append.1 hx with hx | hx
  ·exact p1 x hx
  ·exact p2 x hx⟩
theorem Gr.add{D β j:Nat}{p q:Rat}(hp:Gr D (2^β) j p)(hq:Gr D (2^β) j q):Gr D (2^(β+1)) j (p+q):=by
 obtain⟨⟨y,hy⟩,b1,b2⟩:=hp
 obtain⟨⟨z,hz⟩,b3,b4⟩:=hq
 refine⟨⟨y+z,?_⟩,?_⟩
 ·rw [Rat.intCast_add,←hy,←hz];grind
 ·rw [Rat.pow_succ];exact⟨by grind,by grind⟩
theorem abH{s n:Nat}{f:ZX}(I:lL s n f){D d β J:Nat}{δ:Rat}(vA:1≤D)(hD:D≤2^d)(C:Cut (vt (aR f)) (2^β) δ)(hu:β+1+d+J+1≤1000000000):∀(k j:Nat) (lo hi:Rat),j+k≤J→Gr D (2^β) j lo→Gr D (2^β) j hi→lo<hi→hi-lo≤δ*2^k →
  iX env.P 181 [PI f.l,aG zq (aR f),RR lo,RR hi] 49 10 (emap (qa f (aR f)) ((SE (vt (aR f)) k lo hi).map (ex f))):=by
 have hbt:∀(j:Nat) (lo hi:Rat),j≤J→Gr D (2^β) j lo→Gr D (2^β) j hi→lo<hi→aD env.P 80 [aG zq (aR f),RR lo,RR hi] (.int .i64 ((vt (aR f) lo:Int)-vt (aR f) hi)):=fun j lo hi hj g1 g2 c8=>by
  have:=VT I.hb I.ch.hn I.hl ((g1.mono hj).sq vA hD) ((g2.mono hj).sq vA hD) (by omega)
  rwa [if_neg (Rat.not_lt.2 (Rat.le_of_lt c8))]at this
 have leaf:∀(j:Nat) (lo hi:Rat),j≤J→Gr D (2^β) j lo→Gr D (2^β) j hi→lo<hi→vt (aR f) lo=vt (aR f) hi+1→iX env.P 181 [PI f.l,aG zq (aR f),RR lo,RR hi] 49 10 (emap (qa f (aR f)) ([(lo,hi)].map (ex f))):=fun j lo hi hj g1 g2 c8 he=>by
  have h1:=hbt j lo hi hj g1 g2 c8
  rw [show(vt (aR f) lo:Int)-vt (aR f) hi=1 by omega]at h1
  exact abG h1 (JG (I.ch.bz.mono (by have:=I.hs;omega) (Nat.le_refl _)) I.ch.hn ((g1.mono hj).sq vA hD) ((g2.mono hj).sq vA hD) (by omega))
 have Q8:∀(j:Nat) (lo hi:Rat),j≤J→Gr D (2^β) j lo→Gr D (2^β) j hi→lo<hi→vt (aR f) lo=vt (aR f) hi→iX env.P 181 [PI f.l,aG zq (aR f),RR lo,RR hi] 49 10 (emap (qa f (aR f)) ([].map (ex f))):=fun j lo hi hj g1 g2 c8 he=>by
  have h1:=hbt j lo hi hj g1 g2 c8
  rw [show(vt (aR f) lo:Int)-vt (aR f) hi=0 by omega]at h1
  exact VV h1
 intro k
 induction k with
 | zero =>
  intro j lo hi hj g1 g2 c8 hd
  rw [SE]
  by_cases he:vt (aR f) lo=vt (aR f) hi
  ·rw [if_pos he];exact Q8 j lo hi (by omega) g1 g2 c8 he
  ·rw [if_neg he];exact leaf j lo hi (by omega) g1 g2 c8 (C.leaf g1.b g2.b c8 (by rw [Rat.pow_zero,Rat.mul_one]at hd;exact hd) he)
 | succ k ih =>
  intro j lo hi hj g1 g2 c8 hd
  rw [SE]
  by_cases he:vt (aR f) lo=vt (aR f) hi
  ·rw [if_pos he];exact Q8 j lo hi (by omega) g1 g2 c8 he
  ·rw [if_neg he]
   by_cases GL:vt (aR f) lo=vt (aR f) hi+1
   ·rw [if_pos GL];exact leaf j lo hi (by omega) g1 g2 c8 GL
   ·rw [if_neg GL]
    obtain⟨m1,m2⟩:=pS c8
    obtain⟨d1,d2⟩:=yW hd
    have gm:=g1.GK g2
    have n1:=C.b8 lo ((lo+hi)/2) (Rat.le_of_lt m1)
    have n2:=C.b8 ((lo+hi)/2) hi (Rat.le_of_lt m2)
    have hv1:=Nat.le_trans (afz (aR f) lo) I.hl
    obtain⟨_,a2,_⟩:=rR C k (j+1) lo ((lo+hi)/2) (g1.mono (by omega)) gm m1 d1
    obtain⟨_,b2,_⟩:=rR C k (j+1) ((lo+hi)/2) hi gm (g2.mono (by omega)) m2 d2
    have r1:=ih (j+1) lo ((lo+hi)/2) (by omega) (g1.mono (by omega)) gm m1 d1
    have r2:=ih (j+1) ((lo+hi)/2) hi (by omega) gm (g2.mono (by omega)) m2 d2
    have q1:SQ (β+1+d+J+1) lo:=((g1.mono (show j≤J by omega)).sq vA hD).mono (by omega)
    have q2:SQ (β+1+d+J+1) hi:=((g2.mono (show j≤J by omega)).sq vA hD).mono (by omega)
    have q3:SQ (β+1+d+J+1) (lo+hi):=((g1.add g2).mono (show j≤J by omega)).sq vA hD
    have hM:=Q6 (q1.yy hu) (q2.yy hu) (q3.yy hu)
    have hB:=hbt j lo hi (by omega) g1 g2 c8
    rw [List.map_append]
    exact VW (n:=(vt (aR f) lo:Int)-vt (aR f) hi) (by omega) (by rw [List.length_map];omega) (by rw [List.length_map];omega) hM hB r1 r2
def lvl(s n:Nat):Nat:=lk s n 5 (s+1)+s+2
theorem VX{s n:Nat}(hn:n≤20):lvl s n≤102*s+720:=by
 have h1:(n+n)*(s+5+2+(5+1))≤40*(s+13):=Nat.mul_le_mul (by omega) (by omega)
 have h2:(n+n)*(s+1+2)≤40*(s+3):=Nat.mul_le_mul (by omega) (by omega)
 have h3:n*(s+1+2)≤20*(s+3):=Nat.mul_le_mul hn (by omega)
 unfold lvl lk sk
 omega
def uu(s:Nat):Nat:=105*s+800
namespace lL
variable {s n:Nat} {f:ZX} (I:lL s n f)
include I
theorem f0:f.l ≠ []:=vB I.nf.ne
theorem tY:1≤(lead f.l).natAbs∧(lead f.l).natAbs≤2^s:=by
 have h1:=dK f.c (List.length_pos_iff.2 I.f0)
 have h2:=iK (b:=2) (by decide) (lead f.l)
 have h3:=Nat.pow_le_pow_right (show 0<2 by decide) (gO I.ch.bz)
 omega
theorem avS:1≤i7 f.l:=(rS f.c I.f0 (t:=i7 f.l) (.inr Rat.le_refl)).2
theorem afO:Ab (i7 f.l) (2^(s+1)):=by
 have h1:=AM f.c I.f0
 have hL:(1:Rat)≤(((lead f.l).natAbs:Int):Rat):=fK (by have:=I.tY.1;omega)
 have h2:=Rat.div_mul_cancel (a:=((mG f.l (f.l.length-1):Int):Rat)) (b:=(((lead f.l).natAbs:Int):Rat)) (by grind)
 have h3:=I.avS
 have h4:((mG f.l (f.l.length-1):Int):Rat)≤2^s:=by
  have h5:=iK (b:=2) (by decide) (mG f.l (f.l.length-1))
  have h6:=Nat.pow_le_pow_right (show 0<2 by decide) (w5 I.ch.bz (f.l.length-1))
  exact(JD (s:=s) (by omega)).2
 have h7:=rP s
 rw [Rat.pow_succ]
 generalize (2:Rat)^s=T at *
 generalize ((mG f.l (f.l.length-1):Int):Rat)=m at *
 have hw:m/(((lead f.l).natAbs:Int):Rat)≤T:=by
  refine Rat.not_lt.1 fun h=>?_
  have h8:=Rat.mul_le_mul_of_nonneg_left hL (show 0≤m/(((lead f.l).natAbs:Int):Rat)by grind)
  grind
 exact⟨by grind,by grind⟩
theorem F4:Gr (lead f.l).natAbs (2^(s+1)) 0 (i7 f.l):=by
 refine⟨⟨((lead f.l).natAbs:Int)+mG f.l (f.l.length-1),?_⟩,I.afO⟩
 have hL:(1:Rat)≤(((lead f.l).natAbs:Int):Rat):=fK (by have:=I.tY.1;omega)
 have h1:=AM f.c I.f0
 have h2:=Rat.div_mul_cancel (a:=((mG f.l (f.l.length-1):Int):Rat)) (b:=(((lead f.l).natAbs:Int):Rat)) (by grind)
 rw [Nat.pow_zero,Nat.mul_one,Rat.intCast_add,h1]
 grind
theorem MJ:Gr (lead f.l).natAbs (2^(s+1)) 0 (-i7 f.l):=by
 obtain⟨⟨z,hz⟩,h1,h2⟩:=I.F4
 exact⟨⟨-z,by rw [Rat.intCast_neg,←hz];grind⟩,by grind,by grind⟩
theorem count:(vr (sgL (aR f)):Int)-vr (sgR (aR f))=(vt (aR f) (-i7 f.l):Int)-vt (aR f) (i7 f.l):=by
 have hG:=I.abB
 have h1:vr (sgR (aR f))=vt (aR f) (i7 f.l):=VM hG fun b=>⟨1,by decide,fun x h2 _=>(rS f.c I.f0 (.inr h2)).1⟩
 have h2:vr (sgL (aR f))=vt (aR f) (-i7 f.l):=abC hG fun b=>⟨1,by decide,fun x _ h2=>(rS f.c I.f0 (.inl h2)).1⟩
 rw [h1,h2]
theorem ZK : -i7 f.l<i7 f.l:=by have:=I.avS;grind
end lL
def B7(s n:Nat)(f:ZX):List (Rat × Rat):=SE (vt (aR f)) (lvl s n) (-i7 f.l) (i7 f.l)
structure Ivs(f:ZX)(u:Nat)(lo hi:Rat)(l:List (Rat × Rat)):Prop where
 mem:∀p∈l,SQ u p.1∧SQ u p.2∧lo≤p.1∧p.1<p.2∧p.2≤hi∧vt (aR f) p.1=vt (aR f) p.2+1
 len:l.length=vt (aR f) lo-vt (aR f) hi
 srt:l.Pairwise fun p q=>p.2≤q.1
theorem lL.width{s n:Nat}{f:ZX}(I:lL s n f){δ:Rat}(hδ:δ*2^lk s n 5 (s+1)=1):i7 f.l - -i7 f.l≤δ*2^lvl s n:=by
 have h1:=I.afO.2
 unfold lvl
 rw [show lk s n 5 (s+1)+s+2=lk s n 5 (s+1)+(s+1+1)by omega,pR,←Rat.mul_assoc,hδ,Rat.one_mul,Rat.pow_succ]
 grind
theorem lL.ivs{s n:Nat}{f:ZX}(I:lL s n f):Ivs f (uu s) (-i7 f.l) (i7 f.l) (B7 s n f):=by
 obtain⟨δ,h1,h2,C⟩:=I.cut (s+1)
 have hl:=VX (s:=s) I.ch.hn
 obtain⟨a1,a2,a3⟩:=rR C (lvl s n) 0 _ _ I.MJ I.F4 I.ZK (I.width h2)
 refine⟨fun p hp=>?_,a2,a3⟩
 obtain⟨b1,b2,b3⟩:=a1 p hp
 obtain⟨l1,l2⟩:=I.tY
 exact⟨(b1.sq l1 l2).mono (by unfold uu;omega),(b2.sq l1 l2).mono (by unfold uu;omega),b3⟩
theorem yX{s n:Nat}{f:ZX}(I:lL s n f):(B7 s n f).length≤21:=by
 have:=I.ivs.len
 have h1:=Nat.le_trans (afz (aR f) (-i7 f.l)) I.hl
 omega
theorem VY{α:Type}{g:α→List PV}{l:List α}{s n:Nat}{f:ZX}(hS:aD env.P 74 [aG g l] (Po f.l))(I:lL s n f):aD env.P 19 [aG g l] (.fE [aG (ga f) (B7 s n f), .int .i64 0]):=by
 have hs:=I.hs
 have hn:=I.ch.hn
 have N1:=L7 hS I.ch I.nf
 have P1:=fR (x:=f.l) (I.ch.bz.pb (by omega) (by omega))
 rw [f.c]at P1
 have B1:=VN P1 f.c I.f0 (QQ I.ch.bz) (by omega) (by omega)
 obtain⟨l1,l2⟩:=I.tY
 have qb:=(I.F4.sq l1 l2).mono (show s+1+s+0+1≤uu s by unfold uu;omega)
 have hu:uu s≤1000000000:=by unfold uu;omega
 have M1:=abD (qb.LLt (show uu s<1099511627770 by omega))
 have C1:=VH (c:=aR f) (by have:=I.hl;omega) (pbs I.hb hn)
 rw [I.count]at C1
 obtain⟨δ,h1,h2,C⟩:=I.cut (s+1)
 have hl:=VX (s:=s) hn
 have R1:=afM I l1 l2 C (J:=lvl s n) (by omega) (lvl s n) 0 _ _ (by omega) I.MJ I.F4 I.ZK (I.width h2)
 rw [show SE (vt (aR f)) (lvl s n) (-i7 f.l) (i7 f.l)=B7 s n f from rfl]at R1
 have hlen:=yX I
 have el:(emap (ga f) (B7 s n f)).length≤21:=by simpa [emap]using hlen
 have pe:=MI (f:=f) (l:=B7 s n f)
 have a1:bT 9 (emap (ga f) (B7 s n f))=True:=AR
 replace B1:aD env.P 75 [Po f.l] (.fE [T2 (i7 f.l).num (i7 f.l).den, .int .i64 0]):=B1
 replace M1:aD env.P 77 [T2 (i7 f.l).num (i7 f.l).den] (T2 (-i7 f.l).num (-i7 f.l).den):=M1
 replace R1:iX env.P 76 [Po f.l,CH (aR f),T2 (-i7 f.l).num (-i7 f.l).den,T2 (i7 f.l).num (i7 f.l).den, .int .i64 ((vt (aR f) (-i7 f.l):Int)-vt (aR f) (i7 f.l))] 54 9 (emap (ga f) (B7 s n f)):=R1
 generalize B7 s n f=L at *
 generalize (vt (aR f) (-i7 f.l):Int)-vt (aR f) (i7 f.l)=cn at *
 generalize aR f=c at *
 generalize (-i7 f.l).num=mn at *
 generalize ((-i7 f.l).den:Int)=md at *
 generalize (i7 f.l).num=bn at *
 generalize ((i7 f.l).den:Int)=bd at *
 refine b6 [(0,aG g l)] Tryz.func19 ?_
 refine aA [0] ?_
 refine aJ [0,4,5] N1 ?_
 refine aM [0,4,5,15] ?_
 refine bF ?_ ?_<;>intro h
 ·simp at h
 refine W.skip ?_
 refine aJ [4,6] hS ?_
 refine aJ [4,6,7] B1 ?_
 refine iQ ?_
 refine bW M1 ?_
 refine bW C1 ?_
 refine H6 R1 rfl trivial ?_
 simp (disch:=omega) [gw]
 refine bN [2,3] ?_
 refine W.KT 31 (by simp) (fun K hK=>?_)
 simp
 refine hK _ ?_
 exact b7
theorem F5{x:List Int}{s n:Nat}{f:ZX}(hS:aD env.P 170 [PI x] (PI f.l))(hC:aD env.P 85 [PI x] (aG zq (aR f)))(I:lL s n f)(sO:1≤s):aD env.P 97 [PI x] (aG (qa f (aR f)) ((B7 s n f).map (ex f))):=by
 have hs:=I.hs
 have hn:=I.ch.hn
 have B1:=VP f.c I.f0 I.ch.bz sO (by omega) (by omega)
 obtain⟨l1,l2⟩:=I.tY
 have M1:=E4 (i7 f.l)
 obtain⟨δ,h1,h2,C⟩:=I.cut (s+1)
 have hl:=VX (s:=s) hn
 have R1:=abH I l1 l2 C (J:=lvl s n) (by omega) (lvl s n) 0 _ _ (by omega) I.MJ I.F4 I.ZK (I.width h2)
 rw [show SE (vt (aR f)) (lvl s n) (-i7 f.l) (i7 f.l)=B7 s n f from rfl]at R1
 have hlen:=yX I
 rw [cS]at B1 M1
 rw [cS]at M1
 simp only [cS]at R1
 generalize (B7 s n f).map (ex f)=L at *
 generalize aR f=c at *
 generalize (-i7 f.l).num=mn at *
 generalize ((-i7 f.l).den:Int)=md at *
 generalize (i7 f.l).num=bn at *
 generalize ((i7 f.l).den:Int)=bd at *
 refine b6 [(0,PI x)] Tryz.func97 ?_
 refine aA [0] ?_
 refine aJ [0,3] hS ?_
 refine aJ [3,4] hC ?_
 refine aJ [3,4,5] B1 ?_
 refine iQ ?_
 refine bW M1 ?_
 refine H6 R1 rfl trivial ?_
 simp (disch:=omega) [gw]
 refine bN [2] ?_
 refine W.KT 17 (by simp) (fun K hK=>?_)
 simp
 refine hK _ ?_
 exact b7
end Go.Proofs.YtelhfbikiccfkaaGreat
