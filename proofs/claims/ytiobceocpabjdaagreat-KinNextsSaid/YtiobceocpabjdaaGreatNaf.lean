import Derived.Test.YtiobceocpabjdaaGreatProg
import Derived.KernelRfl
import Derived.Test.YtiobceocpabjdaaGreatNad
set_option linter.unusedSimpArgs false
set_option linter.unusedVariables false
/- The types of the seat, as the pure machine wants them: closed facts, each by the kernel. -/
namespace Go.Proofs.YtiobceocpabjdaaGreat
open Go Pm
def ti2:TI:=.int .i64
theorem axO:fN Tryz.prog 2 ti2:=⟨by kernel_rfl,(aN (v:=.int .i64 0) (by kernel_rfl) rfl (by kernel_rfl) rfl aF)⟩
def ti3:TI:=.int .i64
theorem axP:fN Tryz.prog 3 ti3:=⟨by kernel_rfl,(aN (v:=.int .i64 0) (by kernel_rfl) rfl (by kernel_rfl) rfl aF)⟩
def ti4:TI:=.bool
theorem axQ:fN Tryz.prog 4 ti4:=⟨by kernel_rfl,(aN (v:=.bool false) (by kernel_rfl) rfl (by kernel_rfl) rfl aF)⟩
def ti5:TI:=.int .u8
theorem axR:fN Tryz.prog 5 ti5:=⟨by kernel_rfl,(aN (v:=.int .u8 0) (by kernel_rfl) rfl (by kernel_rfl) rfl aF)⟩
def ti6:TI:=.int .u8
theorem axS:fN Tryz.prog 6 ti6:=⟨by kernel_rfl,(aN (v:=.int .u8 0) (by kernel_rfl) rfl (by kernel_rfl) rfl aF)⟩




def ti9:TI:=.str
theorem axT:fN Tryz.prog 9 ti9:=⟨by kernel_rfl,(aN (v:=.string ⟨#[]⟩) (by kernel_rfl) rfl (by kernel_rfl) rfl aF)⟩










def axU:TI:=.int .i32
theorem arJ:fN Tryz.prog 21 axU:=⟨by kernel_rfl,(aN (v:=.int .i32 0) (by kernel_rfl) rfl (by kernel_rfl) rfl aF)⟩
def axV:TI:=.slice 3 1 8 [.int .i64 0]
theorem arK:fN Tryz.prog 22 axV:=⟨by kernel_rfl,(aN (v:=.slice none 0 0) (by kernel_rfl) rfl (by kernel_rfl) rfl aF),(aN (v:=.int .i64 0) (by kernel_rfl) rfl (by kernel_rfl) rfl aF),dR (by kernel_rfl)⟩
def axW:TI:=.slice 38 2 32 [.bool false, .nil]
theorem arL:fN Tryz.prog 23 axW:=⟨by kernel_rfl,(aN (v:=.slice none 0 0) (by kernel_rfl) rfl (by kernel_rfl) rfl aF),(aN (v:=.agg #[.bool false, .slice none 0 0]) (by kernel_rfl) rfl (by kernel_rfl) rfl aF),dR (by kernel_rfl)⟩
def axX:TI:=.slice 38 2 32 [.bool false, .nil]
theorem arM:fN Tryz.prog 24 axX:=⟨by kernel_rfl,(aN (v:=.slice none 0 0) (by kernel_rfl) rfl (by kernel_rfl) rfl aF),(aN (v:=.agg #[.bool false, .slice none 0 0]) (by kernel_rfl) rfl (by kernel_rfl) rfl aF),dR (by kernel_rfl)⟩
def axY:TI:=.slice 31 4 64 [.nil, .bool false, .nil, .bool false]
theorem arN:fN Tryz.prog 26 axY:=⟨by kernel_rfl,(aN (v:=.slice none 0 0) (by kernel_rfl) rfl (by kernel_rfl) rfl aF),(aN (v:=.agg #[.slice none 0 0, .bool false, .slice none 0 0, .bool false]) (by kernel_rfl) rfl (by kernel_rfl) rfl aF),dR (by kernel_rfl)⟩
def axZ:TI:=.slice 3 1 8 [.int .i64 0]
theorem arO:fN Tryz.prog 27 axZ:=⟨by kernel_rfl,(aN (v:=.slice none 0 0) (by kernel_rfl) rfl (by kernel_rfl) rfl aF),(aN (v:=.int .i64 0) (by kernel_rfl) rfl (by kernel_rfl) rfl aF),dR (by kernel_rfl)⟩


def ax0:TI:=.struct [(0,1,false),(1,1,false)] [.nil, .bool false]
theorem arP:fN Tryz.prog 29 ax0:=⟨eI (by kernel_rfl),(aN (v:=.agg #[.slice none 0 0, .bool false]) (by kernel_rfl) rfl (by kernel_rfl) rfl aF)⟩


def ax1:TI:=.struct [(0,2,true),(2,2,true)] [.nil, .bool false, .nil, .bool false]
theorem arQ:fN Tryz.prog 31 ax1:=⟨eI (by kernel_rfl),(aN (v:=.agg #[.slice none 0 0, .bool false, .slice none 0 0, .bool false]) (by kernel_rfl) rfl (by kernel_rfl) rfl aF)⟩
def ax2:TI:=.slice 185 1 4 [.int .u32 0]
theorem arR:fN Tryz.prog 36 ax2:=⟨by kernel_rfl,(aN (v:=.slice none 0 0) (by kernel_rfl) rfl (by kernel_rfl) rfl aF),(aN (v:=.int .u32 0) (by kernel_rfl) rfl (by kernel_rfl) rfl aF),dR (by kernel_rfl)⟩


def ax3:TI:=.struct [(0,1,false),(1,1,false)] [.bool false, .nil]
theorem arS:fN Tryz.prog 38 ax3:=⟨eI (by kernel_rfl),(aN (v:=.agg #[.bool false, .slice none 0 0]) (by kernel_rfl) rfl (by kernel_rfl) rfl aF)⟩
def ax4:TI:=.slice 54 9 152 [.nil, .bool false, .nil, .bool false, .nil, .bool false, .nil, .bool false, .nil]
theorem arT:fN Tryz.prog 41 ax4:=⟨by kernel_rfl,(aN (v:=.slice none 0 0) (by kernel_rfl) rfl (by kernel_rfl) rfl aF),(aN (v:=.agg #[.slice none 0 0, .bool false, .slice none 0 0, .bool false, .slice none 0 0, .bool false, .slice none 0 0, .bool false, .slice none 0 0]) (by kernel_rfl) rfl (by kernel_rfl) rfl aF),dR (by kernel_rfl)⟩
def ax5:TI:=.int .i64
theorem arU:fN Tryz.prog 42 ax5:=⟨by kernel_rfl,(aN (v:=.int .i64 0) (by kernel_rfl) rfl (by kernel_rfl) rfl aF)⟩
def ax6:TI:=.slice 31 4 64 [.nil, .bool false, .nil, .bool false]
theorem arV:fN Tryz.prog 46 ax6:=⟨by kernel_rfl,(aN (v:=.slice none 0 0) (by kernel_rfl) rfl (by kernel_rfl) rfl aF),(aN (v:=.agg #[.slice none 0 0, .bool false, .slice none 0 0, .bool false]) (by kernel_rfl) rfl (by kernel_rfl) rfl aF),dR (by kernel_rfl)⟩
def ax7:TI:=.slice 46 1 24 [.nil]
theorem arW:fN Tryz.prog 47 ax7:=⟨by kernel_rfl,(aN (v:=.slice none 0 0) (by kernel_rfl) rfl (by kernel_rfl) rfl aF),(aN (v:=.slice none 0 0) (by kernel_rfl) rfl (by kernel_rfl) rfl aF),dR (by kernel_rfl)⟩


def ax8:TI:=.struct [(0,1,false),(1,1,false),(2,4,true),(6,4,true)] [.nil, .nil, .nil, .bool false, .nil, .bool false, .nil, .bool false, .nil, .bool false]
theorem arX:fN Tryz.prog 49 ax8:=⟨eI (by kernel_rfl),(aN (v:=.agg #[.slice none 0 0, .slice none 0 0, .slice none 0 0, .bool false, .slice none 0 0, .bool false, .slice none 0 0, .bool false, .slice none 0 0, .bool false]) (by kernel_rfl) rfl (by kernel_rfl) rfl aF)⟩


def ax9:TI:=.struct [(0,2,true),(2,2,true)] [.bool false, .nil, .bool false, .nil]
theorem arY:fN Tryz.prog 52 ax9:=⟨eI (by kernel_rfl),(aN (v:=.agg #[.bool false, .slice none 0 0, .bool false, .slice none 0 0]) (by kernel_rfl) rfl (by kernel_rfl) rfl aF)⟩


def aya:TI:=.struct [(0,1,false),(1,4,true),(5,4,true)] [.nil, .bool false, .nil, .bool false, .nil, .bool false, .nil, .bool false, .nil]
theorem arZ:fN Tryz.prog 54 aya:=⟨eI (by kernel_rfl),(aN (v:=.agg #[.slice none 0 0, .bool false, .slice none 0 0, .bool false, .slice none 0 0, .bool false, .slice none 0 0, .bool false, .slice none 0 0]) (by kernel_rfl) rfl (by kernel_rfl) rfl aF)⟩


















def ayb:TI:=.arr 3 4 1 [.int .i64 0, .int .i64 0, .int .i64 0, .int .i64 0]
theorem ar0:fN Tryz.prog 76 ayb:=⟨by kernel_rfl,(aN (v:=.agg #[.int .i64 0, .int .i64 0, .int .i64 0, .int .i64 0]) (by kernel_rfl) rfl (by kernel_rfl) rfl aF),LV (by kernel_rfl)⟩


def ayc:TI:=.struct [(0,1,false),(1,4,true)] [.int .i64 0, .int .i64 0, .int .i64 0, .int .i64 0, .int .i64 0]
theorem ar1:fN Tryz.prog 78 ayc:=⟨eI (by kernel_rfl),(aN (v:=.agg #[.int .i64 0, .int .i64 0, .int .i64 0, .int .i64 0, .int .i64 0]) (by kernel_rfl) rfl (by kernel_rfl) rfl aF)⟩
def ayd:TI:=.slice 82 7 72 [.int .i64 0, .int .i64 0, .int .i64 0, .int .i64 0, .int .i64 0, .nil, .int .i64 0]
theorem ar2:fN Tryz.prog 79 ayd:=⟨by kernel_rfl,(aN (v:=.slice none 0 0) (by kernel_rfl) rfl (by kernel_rfl) rfl aF),(aN (v:=.agg #[.int .i64 0, .int .i64 0, .int .i64 0, .int .i64 0, .int .i64 0, .slice none 0 0, .int .i64 0]) (by kernel_rfl) rfl (by kernel_rfl) rfl aF),dR (by kernel_rfl)⟩
def aye:TI:=.slice 85 9 104 [.int .i64 0, .int .i64 0, .int .i64 0, .int .i64 0, .int .i64 0, .nil, .int .i64 0, .nil, .bool false]
theorem ar3:fN Tryz.prog 80 aye:=⟨by kernel_rfl,(aN (v:=.slice none 0 0) (by kernel_rfl) rfl (by kernel_rfl) rfl aF),(aN (v:=.agg #[.int .i64 0, .int .i64 0, .int .i64 0, .int .i64 0, .int .i64 0, .slice none 0 0, .int .i64 0, .slice none 0 0, .bool false]) (by kernel_rfl) rfl (by kernel_rfl) rfl aF),dR (by kernel_rfl)⟩


def ayf:TI:=.struct [(0,5,true),(5,1,false),(6,1,false)] [.int .i64 0, .int .i64 0, .int .i64 0, .int .i64 0, .int .i64 0, .nil, .int .i64 0]
theorem ar4:fN Tryz.prog 82 ayf:=⟨eI (by kernel_rfl),(aN (v:=.agg #[.int .i64 0, .int .i64 0, .int .i64 0, .int .i64 0, .int .i64 0, .slice none 0 0, .int .i64 0]) (by kernel_rfl) rfl (by kernel_rfl) rfl aF)⟩
def ayg:TI:=.slice 49 10 176 [.nil, .nil, .nil, .bool false, .nil, .bool false, .nil, .bool false, .nil, .bool false]
theorem ar5:fN Tryz.prog 83 ayg:=⟨by kernel_rfl,(aN (v:=.slice none 0 0) (by kernel_rfl) rfl (by kernel_rfl) rfl aF),(aN (v:=.agg #[.slice none 0 0, .slice none 0 0, .slice none 0 0, .bool false, .slice none 0 0, .bool false, .slice none 0 0, .bool false, .slice none 0 0, .bool false]) (by kernel_rfl) rfl (by kernel_rfl) rfl aF),dR (by kernel_rfl)⟩


def ayh:TI:=.struct [(0,5,true),(5,1,false),(6,1,false),(7,1,false),(8,1,false)] [.int .i64 0, .int .i64 0, .int .i64 0, .int .i64 0, .int .i64 0, .nil, .int .i64 0, .nil, .bool false]
theorem ar6:fN Tryz.prog 85 ayh:=⟨eI (by kernel_rfl),(aN (v:=.agg #[.int .i64 0, .int .i64 0, .int .i64 0, .int .i64 0, .int .i64 0, .slice none 0 0, .int .i64 0, .slice none 0 0, .bool false]) (by kernel_rfl) rfl (by kernel_rfl) rfl aF)⟩
def ayi:TI:=.slice 179 18 232 [.int .i64 0, .int .i64 0, .int .i64 0, .int .i64 0, .int .i64 0, .nil, .int .i64 0, .bool false, .bool false, .nil, .bool false, .nil, .bool false, .nil, .bool false, .nil, .bool false, .nil]
theorem ar7:fN Tryz.prog 93 ayi:=⟨by kernel_rfl,(aN (v:=.slice none 0 0) (by kernel_rfl) rfl (by kernel_rfl) rfl aF),(aN (v:=.agg #[.int .i64 0, .int .i64 0, .int .i64 0, .int .i64 0, .int .i64 0, .slice none 0 0, .int .i64 0, .bool false, .bool false, .slice none 0 0, .bool false, .slice none 0 0, .bool false, .slice none 0 0, .bool false, .slice none 0 0, .bool false, .slice none 0 0]) (by kernel_rfl) rfl (by kernel_rfl) rfl aF),dR (by kernel_rfl)⟩


def ayj:TI:=.struct [(0,1,false),(1,9,true),(10,1,false),(11,1,false)] [.bool false, .nil, .bool false, .nil, .bool false, .nil, .bool false, .nil, .bool false, .nil, .nil, .int .i64 0]
theorem ar8:fN Tryz.prog 95 ayj:=⟨eI (by kernel_rfl),(aN (v:=.agg #[.bool false, .slice none 0 0, .bool false, .slice none 0 0, .bool false, .slice none 0 0, .bool false, .slice none 0 0, .bool false, .slice none 0 0, .slice none 0 0, .int .i64 0]) (by kernel_rfl) rfl (by kernel_rfl) rfl aF)⟩
def aoz:TI:=.slice 22 1 24 [.nil]
theorem als:fN Tryz.prog 102 aoz:=⟨by kernel_rfl,(aN (v:=.slice none 0 0) (by kernel_rfl) rfl (by kernel_rfl) rfl aF),(aN (v:=.slice none 0 0) (by kernel_rfl) rfl (by kernel_rfl) rfl aF),dR (by kernel_rfl)⟩
def aoA:TI:=.slice 115 14 192 [.int .i64 0, .int .i64 0, .int .i64 0, .int .i64 0, .int .i64 0, .nil, .bool false, .nil, .bool false, .nil, .bool false, .nil, .bool false, .nil]
theorem alu:fN Tryz.prog 110 aoA:=⟨by kernel_rfl,(aN (v:=.slice none 0 0) (by kernel_rfl) rfl (by kernel_rfl) rfl aF),(aN (v:=.agg #[.int .i64 0, .int .i64 0, .int .i64 0, .int .i64 0, .int .i64 0, .slice none 0 0, .bool false, .slice none 0 0, .bool false, .slice none 0 0, .bool false, .slice none 0 0, .bool false, .slice none 0 0]) (by kernel_rfl) rfl (by kernel_rfl) rfl aF),dR (by kernel_rfl)⟩


def aoB:TI:=.struct [(0,5,true),(5,9,true)] [.int .i64 0, .int .i64 0, .int .i64 0, .int .i64 0, .int .i64 0, .nil, .bool false, .nil, .bool false, .nil, .bool false, .nil, .bool false, .nil]
theorem alv:fN Tryz.prog 115 aoB:=⟨eI (by kernel_rfl),(aN (v:=.agg #[.int .i64 0, .int .i64 0, .int .i64 0, .int .i64 0, .int .i64 0, .slice none 0 0, .bool false, .slice none 0 0, .bool false, .slice none 0 0, .bool false, .slice none 0 0, .bool false, .slice none 0 0]) (by kernel_rfl) rfl (by kernel_rfl) rfl aF)⟩










def aoC:TI:=.struct [(0,7,true),(7,1,false),(8,1,false),(9,9,true)] [.int .i64 0, .int .i64 0, .int .i64 0, .int .i64 0, .int .i64 0, .nil, .int .i64 0, .bool false, .bool false, .nil, .bool false, .nil, .bool false, .nil, .bool false, .nil, .bool false, .nil]
theorem alw:fN Tryz.prog 179 aoC:=⟨eI (by kernel_rfl),(aN (v:=.agg #[.int .i64 0, .int .i64 0, .int .i64 0, .int .i64 0, .int .i64 0, .slice none 0 0, .int .i64 0, .bool false, .bool false, .slice none 0 0, .bool false, .slice none 0 0, .bool false, .slice none 0 0, .bool false, .slice none 0 0, .bool false, .slice none 0 0]) (by kernel_rfl) rfl (by kernel_rfl) rfl aF)⟩
def aoD:TI:=.int .u64
theorem alx:fN Tryz.prog 182 aoD:=⟨by kernel_rfl,(aN (v:=.int .u64 0) (by kernel_rfl) rfl (by kernel_rfl) rfl aF)⟩
def aoE:TI:=.int .u32
theorem aly:fN Tryz.prog 185 aoE:=⟨by kernel_rfl,(aN (v:=.int .u32 0) (by kernel_rfl) rfl (by kernel_rfl) rfl aF)⟩
def aoF:TI:=.int .u64
theorem alz:fN Tryz.prog 186 aoF:=⟨by kernel_rfl,(aN (v:=.int .u64 0) (by kernel_rfl) rfl (by kernel_rfl) rfl aF)⟩
def aoG:TI:=.slice 24 1 24 [.nil]
theorem alA:fN Tryz.prog 197 aoG:=⟨by kernel_rfl,(aN (v:=.slice none 0 0) (by kernel_rfl) rfl (by kernel_rfl) rfl aF),(aN (v:=.slice none 0 0) (by kernel_rfl) rfl (by kernel_rfl) rfl aF),dR (by kernel_rfl)⟩


def aoH:TI:=.struct [(0,1,false)] [.nil]
theorem alB:fN Tryz.prog 199 aoH:=⟨eI (by kernel_rfl),(aN (v:=.agg #[.slice none 0 0]) (by kernel_rfl) rfl (by kernel_rfl) rfl aF)⟩
def aoI:TI:=.slice 52 4 64 [.bool false, .nil, .bool false, .nil]
theorem alC:fN Tryz.prog 218 aoI:=⟨by kernel_rfl,(aN (v:=.slice none 0 0) (by kernel_rfl) rfl (by kernel_rfl) rfl aF),(aN (v:=.agg #[.bool false, .slice none 0 0, .bool false, .slice none 0 0]) (by kernel_rfl) rfl (by kernel_rfl) rfl aF),dR (by kernel_rfl)⟩






def aoJ:TI:=.int .i32
theorem alD:fN Tryz.prog 302 aoJ:=⟨by kernel_rfl,(aN (v:=.int .i32 0) (by kernel_rfl) rfl (by kernel_rfl) rfl aF)⟩
def aoK:TI:=.int .i32
theorem alE:fN Tryz.prog 303 aoK:=⟨by kernel_rfl,(aN (v:=.int .i32 0) (by kernel_rfl) rfl (by kernel_rfl) rfl aF)⟩
def tyF:TypeId->TI
  | 2=>ti2
  | 3=>ti3
  | 4=>ti4
  | 5=>ti5
  | 6=>ti6


  | 9=>ti9





  | 21=>axU
  | 22=>axV
  | 23=>axW
  | 24=>axX
  | 26=>axY
  | 27=>axZ

  | 29=>ax0

  | 31=>ax1
  | 36=>ax2

  | 38=>ax3
  | 41=>ax4
  | 42=>ax5
  | 46=>ax6
  | 47=>ax7

  | 49=>ax8

  | 52=>ax9

  | 54=>aya









  | 76=>ayb

  | 78=>ayc
  | 79=>ayd
  | 80=>aye

  | 82=>ayf
  | 83=>ayg

  | 85=>ayh
  | 93=>ayi

  | 95=>ayj
  | 102=>aoz
  | 110=>aoA

  | 115=>aoB





  | 179=>aoC
  | 182=>aoD
  | 185=>aoE
  | 186=>aoF
  | 197=>aoG

  | 199=>aoH
  | 218=>aoI



  | 302=>aoJ
  | 303=>aoK
  | _ => .other
theorem aDh(t:TypeId):fN Tryz.prog t (tyF t):=by
  unfold tyF
  split
  · exact axO
  · exact axP
  · exact axQ
  · exact axR
  · exact axS


  · exact axT





  · exact arJ
  · exact arK
  · exact arL
  · exact arM
  · exact arN
  · exact arO

  · exact arP

  · exact arQ
  · exact arR

  · exact arS
  · exact arT
  · exact arU
  · exact arV
  · exact arW

  · exact arX

  · exact arY

  · exact arZ









  · exact ar0

  · exact ar1
  · exact ar2
  · exact ar3

  · exact ar4
  · exact ar5

  · exact ar6
  · exact ar7

  · exact ar8
  · exact als
  · exact alu

  · exact alv





  · exact alw
  · exact alx
  · exact aly
  · exact alz
  · exact alA

  · exact alB
  · exact alC



  · exact alD
  · exact alE
  · trivial
theorem alF:Tryz.prog.follows .mixedOrders=true:=by kernel_rfl
def K3(g:FuncId):Bool:=g==37 || g==50 || g==72 || g==184 || g==270 || g==271
def vX(g:FuncId):Bool:=g==42 || g==43 || g==44 || g==47 || g==49 || g==51 || g==52 || g==55 || g==109 || g==120 || g==191
noncomputable def env:Env:=⟨Tryz.prog,tyF,aDh,alF,K3,vX⟩
@[simp] theorem aBc:env.writes=K3:=rfl
@[simp] theorem ayk:env.uT=vX:=rfl
attribute [simp] K3 vX
@[simp] theorem aIV:env.ty 2 = .int .i64:=rfl
@[simp] theorem aDi:env.ty 3 = .int .i64:=rfl
@[simp] theorem aIW:env.ty 4 = .bool:=rfl
@[simp] theorem ayl:env.ty 5 = .int .u8:=rfl
@[simp] theorem aIX:env.ty 6 = .int .u8:=rfl


@[simp] theorem aIY:env.ty 9 = .str:=rfl





@[simp] theorem aGD:env.ty 21 = .int .i32:=rfl
@[simp] theorem aGE:env.ty 22 = .slice 3 1 8 [.int .i64 0]:=rfl
@[simp] theorem aGF:env.ty 23 = .slice 38 2 32 [.bool false, .nil]:=rfl
@[simp] theorem aGG:env.ty 24 = .slice 38 2 32 [.bool false, .nil]:=rfl
@[simp] theorem aGH:env.ty 26 = .slice 31 4 64 [.nil, .bool false, .nil, .bool false]:=rfl
@[simp] theorem aGI:env.ty 27 = .slice 3 1 8 [.int .i64 0]:=rfl

@[simp] theorem aGJ:env.ty 29 = .struct [(0,1,false),(1,1,false)] [.nil, .bool false]:=rfl

@[simp] theorem aGK:env.ty 31 = .struct [(0,2,true),(2,2,true)] [.nil, .bool false, .nil, .bool false]:=rfl
@[simp] theorem aGL:env.ty 36 = .slice 185 1 4 [.int .u32 0]:=rfl

@[simp] theorem aGM:env.ty 38 = .struct [(0,1,false),(1,1,false)] [.bool false, .nil]:=rfl
@[simp] theorem aGN:env.ty 41 = .slice 54 9 152 [.nil, .bool false, .nil, .bool false, .nil, .bool false, .nil, .bool false, .nil]:=rfl
@[simp] theorem aGO:env.ty 42 = .int .i64:=rfl
@[simp] theorem aGP:env.ty 46 = .slice 31 4 64 [.nil, .bool false, .nil, .bool false]:=rfl
@[simp] theorem aGQ:env.ty 47 = .slice 46 1 24 [.nil]:=rfl

@[simp] theorem aGR:env.ty 49 = .struct [(0,1,false),(1,1,false),(2,4,true),(6,4,true)] [.nil, .nil, .nil, .bool false, .nil, .bool false, .nil, .bool false, .nil, .bool false]:=rfl

@[simp] theorem aGS:env.ty 52 = .struct [(0,2,true),(2,2,true)] [.bool false, .nil, .bool false, .nil]:=rfl

@[simp] theorem aGT:env.ty 54 = .struct [(0,1,false),(1,4,true),(5,4,true)] [.nil, .bool false, .nil, .bool false, .nil, .bool false, .nil, .bool false, .nil]:=rfl









@[simp] theorem aGU:env.ty 76 = .arr 3 4 1 [.int .i64 0, .int .i64 0, .int .i64 0, .int .i64 0]:=rfl

@[simp] theorem aGV:env.ty 78 = .struct [(0,1,false),(1,4,true)] [.int .i64 0, .int .i64 0, .int .i64 0, .int .i64 0, .int .i64 0]:=rfl
@[simp] theorem aGW:env.ty 79 = .slice 82 7 72 [.int .i64 0, .int .i64 0, .int .i64 0, .int .i64 0, .int .i64 0, .nil, .int .i64 0]:=rfl
@[simp] theorem aGX:env.ty 80 = .slice 85 9 104 [.int .i64 0, .int .i64 0, .int .i64 0, .int .i64 0, .int .i64 0, .nil, .int .i64 0, .nil, .bool false]:=rfl

@[simp] theorem aGY:env.ty 82 = .struct [(0,5,true),(5,1,false),(6,1,false)] [.int .i64 0, .int .i64 0, .int .i64 0, .int .i64 0, .int .i64 0, .nil, .int .i64 0]:=rfl
@[simp] theorem aGZ:env.ty 83 = .slice 49 10 176 [.nil, .nil, .nil, .bool false, .nil, .bool false, .nil, .bool false, .nil, .bool false]:=rfl

@[simp] theorem aG0:env.ty 85 = .struct [(0,5,true),(5,1,false),(6,1,false),(7,1,false),(8,1,false)] [.int .i64 0, .int .i64 0, .int .i64 0, .int .i64 0, .int .i64 0, .nil, .int .i64 0, .nil, .bool false]:=rfl
@[simp] theorem aG1:env.ty 93 = .slice 179 18 232 [.int .i64 0, .int .i64 0, .int .i64 0, .int .i64 0, .int .i64 0, .nil, .int .i64 0, .bool false, .bool false, .nil, .bool false, .nil, .bool false, .nil, .bool false, .nil, .bool false, .nil]:=rfl

@[simp] theorem aG2:env.ty 95 = .struct [(0,1,false),(1,9,true),(10,1,false),(11,1,false)] [.bool false, .nil, .bool false, .nil, .bool false, .nil, .bool false, .nil, .bool false, .nil, .nil, .int .i64 0]:=rfl
@[simp] theorem aDj:env.ty 102 = .slice 22 1 24 [.nil]:=rfl
@[simp] theorem aDk:env.ty 110 = .slice 115 14 192 [.int .i64 0, .int .i64 0, .int .i64 0, .int .i64 0, .int .i64 0, .nil, .bool false, .nil, .bool false, .nil, .bool false, .nil, .bool false, .nil]:=rfl

@[simp] theorem aDl:env.ty 115 = .struct [(0,5,true),(5,9,true)] [.int .i64 0, .int .i64 0, .int .i64 0, .int .i64 0, .int .i64 0, .nil, .bool false, .nil, .bool false, .nil, .bool false, .nil, .bool false, .nil]:=rfl





@[simp] theorem aDm:env.ty 179 = .struct [(0,7,true),(7,1,false),(8,1,false),(9,9,true)] [.int .i64 0, .int .i64 0, .int .i64 0, .int .i64 0, .int .i64 0, .nil, .int .i64 0, .bool false, .bool false, .nil, .bool false, .nil, .bool false, .nil, .bool false, .nil, .bool false, .nil]:=rfl
@[simp] theorem aDn:env.ty 182 = .int .u64:=rfl
@[simp] theorem ar9:env.ty 185 = .int .u32:=rfl
@[simp] theorem aDo:env.ty 186 = .int .u64:=rfl
@[simp] theorem aDp:env.ty 197 = .slice 24 1 24 [.nil]:=rfl

@[simp] theorem aDq:env.ty 199 = .struct [(0,1,false)] [.nil]:=rfl
@[simp] theorem aDr:env.ty 218 = .slice 52 4 64 [.bool false, .nil, .bool false, .nil]:=rfl



@[simp] theorem aDs:env.ty 302 = .int .i32:=rfl
@[simp] theorem aDt:env.ty 303 = .int .i32:=rfl
end Go.Proofs.YtiobceocpabjdaaGreat
