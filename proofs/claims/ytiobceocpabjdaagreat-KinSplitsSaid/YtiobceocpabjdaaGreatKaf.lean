import Derived.Test.YtiobceocpabjdaaGreatProg
import Derived.KernelRfl
import Derived.Test.YtiobceocpabjdaaGreatKad
set_option linter.unusedSimpArgs false
set_option linter.unusedVariables false
/- The types of the seat, as the pure machine wants them: closed facts, each by the kernel. -/
namespace Go.Proofs.YtiobceocpabjdaaGreat
open Go Pm
def ti2:TI:=.int .i64
theorem avh:cK Tryz.prog 2 ti2:=⟨by kernel_rfl,(aD (v:=.int .i64 0) (by kernel_rfl) rfl (by kernel_rfl) rfl (by decide))⟩
def ti3:TI:=.int .i64
theorem avi:cK Tryz.prog 3 ti3:=⟨by kernel_rfl,(aD (v:=.int .i64 0) (by kernel_rfl) rfl (by kernel_rfl) rfl (by decide))⟩
def ti4:TI:=.bool
theorem avj:cK Tryz.prog 4 ti4:=⟨by kernel_rfl,(aD (v:=.bool false) (by kernel_rfl) rfl (by kernel_rfl) rfl (by decide))⟩
def ti5:TI:=.int .u8
theorem avk:cK Tryz.prog 5 ti5:=⟨by kernel_rfl,(aD (v:=.int .u8 0) (by kernel_rfl) rfl (by kernel_rfl) rfl (by decide))⟩
def ti6:TI:=.int .u8
theorem avl:cK Tryz.prog 6 ti6:=⟨by kernel_rfl,(aD (v:=.int .u8 0) (by kernel_rfl) rfl (by kernel_rfl) rfl (by decide))⟩




def ti9:TI:=.str
theorem avo:cK Tryz.prog 9 ti9:=⟨by kernel_rfl,(aD (v:=.string ⟨#[]⟩) (by kernel_rfl) rfl (by kernel_rfl) rfl (by decide))⟩










def avu:TI:=.int .i32
theorem ao5:cK Tryz.prog 21 avu:=⟨by kernel_rfl,(aD (v:=.int .i32 0) (by kernel_rfl) rfl (by kernel_rfl) rfl (by decide))⟩
def avv:TI:=.slice 3 1 8 [.int .i64 0]
theorem ao6:cK Tryz.prog 22 avv:=⟨by kernel_rfl,(aD (v:=.slice none 0 0) (by kernel_rfl) rfl (by kernel_rfl) rfl (by decide)),(aD (v:=.int .i64 0) (by kernel_rfl) rfl (by kernel_rfl) rfl (by decide)),cG (by kernel_rfl)⟩
def avw:TI:=.slice 38 2 32 [.bool false, .nil]
theorem ao7:cK Tryz.prog 23 avw:=⟨by kernel_rfl,(aD (v:=.slice none 0 0) (by kernel_rfl) rfl (by kernel_rfl) rfl (by decide)),(aD (v:=.agg #[.bool false, .slice none 0 0]) (by kernel_rfl) rfl (by kernel_rfl) rfl (by decide)),cG (by kernel_rfl)⟩
def avx:TI:=.slice 38 2 32 [.bool false, .nil]
theorem ao8:cK Tryz.prog 24 avx:=⟨by kernel_rfl,(aD (v:=.slice none 0 0) (by kernel_rfl) rfl (by kernel_rfl) rfl (by decide)),(aD (v:=.agg #[.bool false, .slice none 0 0]) (by kernel_rfl) rfl (by kernel_rfl) rfl (by decide)),cG (by kernel_rfl)⟩
def avy:TI:=.slice 31 4 64 [.nil, .bool false, .nil, .bool false]
theorem ao9:cK Tryz.prog 26 avy:=⟨by kernel_rfl,(aD (v:=.slice none 0 0) (by kernel_rfl) rfl (by kernel_rfl) rfl (by decide)),(aD (v:=.agg #[.slice none 0 0, .bool false, .slice none 0 0, .bool false]) (by kernel_rfl) rfl (by kernel_rfl) rfl (by decide)),cG (by kernel_rfl)⟩
def avz:TI:=.slice 3 1 8 [.int .i64 0]
theorem apa:cK Tryz.prog 27 avz:=⟨by kernel_rfl,(aD (v:=.slice none 0 0) (by kernel_rfl) rfl (by kernel_rfl) rfl (by decide)),(aD (v:=.int .i64 0) (by kernel_rfl) rfl (by kernel_rfl) rfl (by decide)),cG (by kernel_rfl)⟩


def avB:TI:=.struct [(0,1,false),(1,1,false)] [.nil, .bool false]
theorem apc:cK Tryz.prog 29 avB:=⟨aT (by kernel_rfl),(aD (v:=.agg #[.slice none 0 0, .bool false]) (by kernel_rfl) rfl (by kernel_rfl) rfl (by decide))⟩


def avD:TI:=.struct [(0,2,true),(2,2,true)] [.nil, .bool false, .nil, .bool false]
theorem ape:cK Tryz.prog 31 avD:=⟨aT (by kernel_rfl),(aD (v:=.agg #[.slice none 0 0, .bool false, .slice none 0 0, .bool false]) (by kernel_rfl) rfl (by kernel_rfl) rfl (by decide))⟩
def avE:TI:=.slice 185 1 4 [.int .u32 0]
theorem apf:cK Tryz.prog 36 avE:=⟨by kernel_rfl,(aD (v:=.slice none 0 0) (by kernel_rfl) rfl (by kernel_rfl) rfl (by decide)),(aD (v:=.int .u32 0) (by kernel_rfl) rfl (by kernel_rfl) rfl (by decide)),cG (by kernel_rfl)⟩


def avG:TI:=.struct [(0,1,false),(1,1,false)] [.bool false, .nil]
theorem aph:cK Tryz.prog 38 avG:=⟨aT (by kernel_rfl),(aD (v:=.agg #[.bool false, .slice none 0 0]) (by kernel_rfl) rfl (by kernel_rfl) rfl (by decide))⟩
def avH:TI:=.slice 54 9 152 [.nil, .bool false, .nil, .bool false, .nil, .bool false, .nil, .bool false, .nil]
theorem api:cK Tryz.prog 41 avH:=⟨by kernel_rfl,(aD (v:=.slice none 0 0) (by kernel_rfl) rfl (by kernel_rfl) rfl (by decide)),(aD (v:=.agg #[.slice none 0 0, .bool false, .slice none 0 0, .bool false, .slice none 0 0, .bool false, .slice none 0 0, .bool false, .slice none 0 0]) (by kernel_rfl) rfl (by kernel_rfl) rfl (by decide)),cG (by kernel_rfl)⟩
def avI:TI:=.int .i64
theorem apj:cK Tryz.prog 42 avI:=⟨by kernel_rfl,(aD (v:=.int .i64 0) (by kernel_rfl) rfl (by kernel_rfl) rfl (by decide))⟩
def avJ:TI:=.slice 31 4 64 [.nil, .bool false, .nil, .bool false]
theorem apk:cK Tryz.prog 46 avJ:=⟨by kernel_rfl,(aD (v:=.slice none 0 0) (by kernel_rfl) rfl (by kernel_rfl) rfl (by decide)),(aD (v:=.agg #[.slice none 0 0, .bool false, .slice none 0 0, .bool false]) (by kernel_rfl) rfl (by kernel_rfl) rfl (by decide)),cG (by kernel_rfl)⟩
def avK:TI:=.slice 46 1 24 [.nil]
theorem apl:cK Tryz.prog 47 avK:=⟨by kernel_rfl,(aD (v:=.slice none 0 0) (by kernel_rfl) rfl (by kernel_rfl) rfl (by decide)),(aD (v:=.slice none 0 0) (by kernel_rfl) rfl (by kernel_rfl) rfl (by decide)),cG (by kernel_rfl)⟩


def avM:TI:=.struct [(0,1,false),(1,1,false),(2,4,true),(6,4,true)] [.nil, .nil, .nil, .bool false, .nil, .bool false, .nil, .bool false, .nil, .bool false]
theorem apn:cK Tryz.prog 49 avM:=⟨aT (by kernel_rfl),(aD (v:=.agg #[.slice none 0 0, .slice none 0 0, .slice none 0 0, .bool false, .slice none 0 0, .bool false, .slice none 0 0, .bool false, .slice none 0 0, .bool false]) (by kernel_rfl) rfl (by kernel_rfl) rfl (by decide))⟩


def avO:TI:=.struct [(0,2,true),(2,2,true)] [.bool false, .nil, .bool false, .nil]
theorem apq:cK Tryz.prog 52 avO:=⟨aT (by kernel_rfl),(aD (v:=.agg #[.bool false, .slice none 0 0, .bool false, .slice none 0 0]) (by kernel_rfl) rfl (by kernel_rfl) rfl (by decide))⟩


def avQ:TI:=.struct [(0,1,false),(1,4,true),(5,4,true)] [.nil, .bool false, .nil, .bool false, .nil, .bool false, .nil, .bool false, .nil]
theorem aps:cK Tryz.prog 54 avQ:=⟨aT (by kernel_rfl),(aD (v:=.agg #[.slice none 0 0, .bool false, .slice none 0 0, .bool false, .slice none 0 0, .bool false, .slice none 0 0, .bool false, .slice none 0 0]) (by kernel_rfl) rfl (by kernel_rfl) rfl (by decide))⟩


















def av0:TI:=.arr 3 4 1 [.int .i64 0, .int .i64 0, .int .i64 0, .int .i64 0]
theorem apC:cK Tryz.prog 76 av0:=⟨by kernel_rfl,(aD (v:=.agg #[.int .i64 0, .int .i64 0, .int .i64 0, .int .i64 0]) (by kernel_rfl) rfl (by kernel_rfl) rfl (by decide)),HR (by kernel_rfl)⟩


def av2:TI:=.struct [(0,1,false),(1,4,true)] [.int .i64 0, .int .i64 0, .int .i64 0, .int .i64 0, .int .i64 0]
theorem apE:cK Tryz.prog 78 av2:=⟨aT (by kernel_rfl),(aD (v:=.agg #[.int .i64 0, .int .i64 0, .int .i64 0, .int .i64 0, .int .i64 0]) (by kernel_rfl) rfl (by kernel_rfl) rfl (by decide))⟩
def av3:TI:=.slice 82 7 72 [.int .i64 0, .int .i64 0, .int .i64 0, .int .i64 0, .int .i64 0, .nil, .int .i64 0]
theorem apF:cK Tryz.prog 79 av3:=⟨by kernel_rfl,(aD (v:=.slice none 0 0) (by kernel_rfl) rfl (by kernel_rfl) rfl (by decide)),(aD (v:=.agg #[.int .i64 0, .int .i64 0, .int .i64 0, .int .i64 0, .int .i64 0, .slice none 0 0, .int .i64 0]) (by kernel_rfl) rfl (by kernel_rfl) rfl (by decide)),cG (by kernel_rfl)⟩
def av4:TI:=.slice 85 9 104 [.int .i64 0, .int .i64 0, .int .i64 0, .int .i64 0, .int .i64 0, .nil, .int .i64 0, .nil, .bool false]
theorem apG:cK Tryz.prog 80 av4:=⟨by kernel_rfl,(aD (v:=.slice none 0 0) (by kernel_rfl) rfl (by kernel_rfl) rfl (by decide)),(aD (v:=.agg #[.int .i64 0, .int .i64 0, .int .i64 0, .int .i64 0, .int .i64 0, .slice none 0 0, .int .i64 0, .slice none 0 0, .bool false]) (by kernel_rfl) rfl (by kernel_rfl) rfl (by decide)),cG (by kernel_rfl)⟩


def av6:TI:=.struct [(0,5,true),(5,1,false),(6,1,false)] [.int .i64 0, .int .i64 0, .int .i64 0, .int .i64 0, .int .i64 0, .nil, .int .i64 0]
theorem apI:cK Tryz.prog 82 av6:=⟨aT (by kernel_rfl),(aD (v:=.agg #[.int .i64 0, .int .i64 0, .int .i64 0, .int .i64 0, .int .i64 0, .slice none 0 0, .int .i64 0]) (by kernel_rfl) rfl (by kernel_rfl) rfl (by decide))⟩
def av7:TI:=.slice 49 10 176 [.nil, .nil, .nil, .bool false, .nil, .bool false, .nil, .bool false, .nil, .bool false]
theorem apJ:cK Tryz.prog 83 av7:=⟨by kernel_rfl,(aD (v:=.slice none 0 0) (by kernel_rfl) rfl (by kernel_rfl) rfl (by decide)),(aD (v:=.agg #[.slice none 0 0, .slice none 0 0, .slice none 0 0, .bool false, .slice none 0 0, .bool false, .slice none 0 0, .bool false, .slice none 0 0, .bool false]) (by kernel_rfl) rfl (by kernel_rfl) rfl (by decide)),cG (by kernel_rfl)⟩


def av9:TI:=.struct [(0,5,true),(5,1,false),(6,1,false),(7,1,false),(8,1,false)] [.int .i64 0, .int .i64 0, .int .i64 0, .int .i64 0, .int .i64 0, .nil, .int .i64 0, .nil, .bool false]
theorem apL:cK Tryz.prog 85 av9:=⟨aT (by kernel_rfl),(aD (v:=.agg #[.int .i64 0, .int .i64 0, .int .i64 0, .int .i64 0, .int .i64 0, .slice none 0 0, .int .i64 0, .slice none 0 0, .bool false]) (by kernel_rfl) rfl (by kernel_rfl) rfl (by decide))⟩
def awa:TI:=.slice 179 18 232 [.int .i64 0, .int .i64 0, .int .i64 0, .int .i64 0, .int .i64 0, .nil, .int .i64 0, .bool false, .bool false, .nil, .bool false, .nil, .bool false, .nil, .bool false, .nil, .bool false, .nil]
theorem apM:cK Tryz.prog 93 awa:=⟨by kernel_rfl,(aD (v:=.slice none 0 0) (by kernel_rfl) rfl (by kernel_rfl) rfl (by decide)),(aD (v:=.agg #[.int .i64 0, .int .i64 0, .int .i64 0, .int .i64 0, .int .i64 0, .slice none 0 0, .int .i64 0, .bool false, .bool false, .slice none 0 0, .bool false, .slice none 0 0, .bool false, .slice none 0 0, .bool false, .slice none 0 0, .bool false, .slice none 0 0]) (by kernel_rfl) rfl (by kernel_rfl) rfl (by decide)),cG (by kernel_rfl)⟩


def awc:TI:=.struct [(0,1,false),(1,9,true),(10,1,false),(11,1,false)] [.bool false, .nil, .bool false, .nil, .bool false, .nil, .bool false, .nil, .bool false, .nil, .nil, .int .i64 0]
theorem apO:cK Tryz.prog 95 awc:=⟨aT (by kernel_rfl),(aD (v:=.agg #[.bool false, .slice none 0 0, .bool false, .slice none 0 0, .bool false, .slice none 0 0, .bool false, .slice none 0 0, .bool false, .slice none 0 0, .slice none 0 0, .int .i64 0]) (by kernel_rfl) rfl (by kernel_rfl) rfl (by decide))⟩
def alU:TI:=.slice 22 1 24 [.nil]
theorem aiz:cK Tryz.prog 102 alU:=⟨by kernel_rfl,(aD (v:=.slice none 0 0) (by kernel_rfl) rfl (by kernel_rfl) rfl (by decide)),(aD (v:=.slice none 0 0) (by kernel_rfl) rfl (by kernel_rfl) rfl (by decide)),cG (by kernel_rfl)⟩
















def al3:TI:=.struct [(0,7,true),(7,1,false),(8,1,false),(9,9,true)] [.int .i64 0, .int .i64 0, .int .i64 0, .int .i64 0, .int .i64 0, .nil, .int .i64 0, .bool false, .bool false, .nil, .bool false, .nil, .bool false, .nil, .bool false, .nil, .bool false, .nil]
theorem aiI:cK Tryz.prog 179 al3:=⟨aT (by kernel_rfl),(aD (v:=.agg #[.int .i64 0, .int .i64 0, .int .i64 0, .int .i64 0, .int .i64 0, .slice none 0 0, .int .i64 0, .bool false, .bool false, .slice none 0 0, .bool false, .slice none 0 0, .bool false, .slice none 0 0, .bool false, .slice none 0 0, .bool false, .slice none 0 0]) (by kernel_rfl) rfl (by kernel_rfl) rfl (by decide))⟩
def al4:TI:=.int .u64
theorem aiJ:cK Tryz.prog 182 al4:=⟨by kernel_rfl,(aD (v:=.int .u64 0) (by kernel_rfl) rfl (by kernel_rfl) rfl (by decide))⟩
def al5:TI:=.int .u32
theorem aiK:cK Tryz.prog 185 al5:=⟨by kernel_rfl,(aD (v:=.int .u32 0) (by kernel_rfl) rfl (by kernel_rfl) rfl (by decide))⟩
def al6:TI:=.int .u64
theorem aiL:cK Tryz.prog 186 al6:=⟨by kernel_rfl,(aD (v:=.int .u64 0) (by kernel_rfl) rfl (by kernel_rfl) rfl (by decide))⟩
def al7:TI:=.slice 24 1 24 [.nil]
theorem aiM:cK Tryz.prog 197 al7:=⟨by kernel_rfl,(aD (v:=.slice none 0 0) (by kernel_rfl) rfl (by kernel_rfl) rfl (by decide)),(aD (v:=.slice none 0 0) (by kernel_rfl) rfl (by kernel_rfl) rfl (by decide)),cG (by kernel_rfl)⟩


def al9:TI:=.struct [(0,1,false)] [.nil]
theorem aiO:cK Tryz.prog 199 al9:=⟨aT (by kernel_rfl),(aD (v:=.agg #[.slice none 0 0]) (by kernel_rfl) rfl (by kernel_rfl) rfl (by decide))⟩
def ama:TI:=.slice 52 4 64 [.bool false, .nil, .bool false, .nil]
theorem aiP:cK Tryz.prog 218 ama:=⟨by kernel_rfl,(aD (v:=.slice none 0 0) (by kernel_rfl) rfl (by kernel_rfl) rfl (by decide)),(aD (v:=.agg #[.bool false, .slice none 0 0, .bool false, .slice none 0 0]) (by kernel_rfl) rfl (by kernel_rfl) rfl (by decide)),cG (by kernel_rfl)⟩






def ame:TI:=.int .i32
theorem aiT:cK Tryz.prog 302 ame:=⟨by kernel_rfl,(aD (v:=.int .i32 0) (by kernel_rfl) rfl (by kernel_rfl) rfl (by decide))⟩
def amf:TI:=.int .i32
theorem aiU:cK Tryz.prog 303 amf:=⟨by kernel_rfl,(aD (v:=.int .i32 0) (by kernel_rfl) rfl (by kernel_rfl) rfl (by decide))⟩
def tyF:TypeId→TI
  | 2=>ti2
  | 3=>ti3
  | 4=>ti4
  | 5=>ti5
  | 6=>ti6


  | 9=>ti9





  | 21=>avu
  | 22=>avv
  | 23=>avw
  | 24=>avx
  | 26=>avy
  | 27=>avz

  | 29=>avB

  | 31=>avD
  | 36=>avE

  | 38=>avG
  | 41=>avH
  | 42=>avI
  | 46=>avJ
  | 47=>avK

  | 49=>avM

  | 52=>avO

  | 54=>avQ









  | 76=>av0

  | 78=>av2
  | 79=>av3
  | 80=>av4

  | 82=>av6
  | 83=>av7

  | 85=>av9
  | 93=>awa

  | 95=>awc
  | 102=>alU








  | 179=>al3
  | 182=>al4
  | 185=>al5
  | 186=>al6
  | 197=>al7

  | 199=>al9
  | 218=>ama



  | 302=>ame
  | 303=>amf
  | _ => .other
theorem aAV(t:TypeId):cK Tryz.prog t (tyF t):=by
  unfold tyF
  split
  · exact avh
  · exact avi
  · exact avj
  · exact avk
  · exact avl


  · exact avo





  · exact ao5
  · exact ao6
  · exact ao7
  · exact ao8
  · exact ao9
  · exact apa

  · exact apc

  · exact ape
  · exact apf

  · exact aph
  · exact api
  · exact apj
  · exact apk
  · exact apl

  · exact apn

  · exact apq

  · exact aps









  · exact apC

  · exact apE
  · exact apF
  · exact apG

  · exact apI
  · exact apJ

  · exact apL
  · exact apM

  · exact apO
  · exact aiz








  · exact aiI
  · exact aiJ
  · exact aiK
  · exact aiL
  · exact aiM

  · exact aiO
  · exact aiP



  · exact aiT
  · exact aiU
  · trivial
theorem aiV:Tryz.prog.follows .mixedOrders=true:=by kernel_rfl
def KW(g:FuncId):Bool:=g==72 || g==184 || g==270 || g==271
def xL(g:FuncId):Bool:=g==42 || g==43 || g==44 || g==47 || g==49 || g==51 || g==52 || g==109 || g==120 || g==191
noncomputable def env:Env:=⟨Tryz.prog,tyF,aAV,aiV,KW,xL⟩
@[simp] theorem ay1:env.writes=KW:=rfl
@[simp] theorem awd:env.GG=xL:=rfl
attribute [simp] KW xL
@[simp] theorem aGR:env.ty 2 = .int .i64:=rfl
@[simp] theorem aAW:env.ty 3 = .int .i64:=rfl
@[simp] theorem aGS:env.ty 4 = .bool:=rfl
@[simp] theorem awe:env.ty 5 = .int .u8:=rfl
@[simp] theorem aGT:env.ty 6 = .int .u8:=rfl


@[simp] theorem aGW:env.ty 9 = .str:=rfl





@[simp] theorem aEn:env.ty 21 = .int .i32:=rfl
@[simp] theorem aEo:env.ty 22 = .slice 3 1 8 [.int .i64 0]:=rfl
@[simp] theorem aEp:env.ty 23 = .slice 38 2 32 [.bool false, .nil]:=rfl
@[simp] theorem aEq:env.ty 24 = .slice 38 2 32 [.bool false, .nil]:=rfl
@[simp] theorem aEr:env.ty 26 = .slice 31 4 64 [.nil, .bool false, .nil, .bool false]:=rfl
@[simp] theorem aEs:env.ty 27 = .slice 3 1 8 [.int .i64 0]:=rfl

@[simp] theorem aEu:env.ty 29 = .struct [(0,1,false),(1,1,false)] [.nil, .bool false]:=rfl

@[simp] theorem aEw:env.ty 31 = .struct [(0,2,true),(2,2,true)] [.nil, .bool false, .nil, .bool false]:=rfl
@[simp] theorem aEx:env.ty 36 = .slice 185 1 4 [.int .u32 0]:=rfl

@[simp] theorem aEz:env.ty 38 = .struct [(0,1,false),(1,1,false)] [.bool false, .nil]:=rfl
@[simp] theorem aEA:env.ty 41 = .slice 54 9 152 [.nil, .bool false, .nil, .bool false, .nil, .bool false, .nil, .bool false, .nil]:=rfl
@[simp] theorem aEB:env.ty 42 = .int .i64:=rfl
@[simp] theorem aEC:env.ty 46 = .slice 31 4 64 [.nil, .bool false, .nil, .bool false]:=rfl
@[simp] theorem aED:env.ty 47 = .slice 46 1 24 [.nil]:=rfl

@[simp] theorem aEF:env.ty 49 = .struct [(0,1,false),(1,1,false),(2,4,true),(6,4,true)] [.nil, .nil, .nil, .bool false, .nil, .bool false, .nil, .bool false, .nil, .bool false]:=rfl

@[simp] theorem aEH:env.ty 52 = .struct [(0,2,true),(2,2,true)] [.bool false, .nil, .bool false, .nil]:=rfl

@[simp] theorem aEJ:env.ty 54 = .struct [(0,1,false),(1,4,true),(5,4,true)] [.nil, .bool false, .nil, .bool false, .nil, .bool false, .nil, .bool false, .nil]:=rfl









@[simp] theorem aET:env.ty 76 = .arr 3 4 1 [.int .i64 0, .int .i64 0, .int .i64 0, .int .i64 0]:=rfl

@[simp] theorem aEV:env.ty 78 = .struct [(0,1,false),(1,4,true)] [.int .i64 0, .int .i64 0, .int .i64 0, .int .i64 0, .int .i64 0]:=rfl
@[simp] theorem aEW:env.ty 79 = .slice 82 7 72 [.int .i64 0, .int .i64 0, .int .i64 0, .int .i64 0, .int .i64 0, .nil, .int .i64 0]:=rfl
@[simp] theorem aEX:env.ty 80 = .slice 85 9 104 [.int .i64 0, .int .i64 0, .int .i64 0, .int .i64 0, .int .i64 0, .nil, .int .i64 0, .nil, .bool false]:=rfl

@[simp] theorem aEZ:env.ty 82 = .struct [(0,5,true),(5,1,false),(6,1,false)] [.int .i64 0, .int .i64 0, .int .i64 0, .int .i64 0, .int .i64 0, .nil, .int .i64 0]:=rfl
@[simp] theorem aE0:env.ty 83 = .slice 49 10 176 [.nil, .nil, .nil, .bool false, .nil, .bool false, .nil, .bool false, .nil, .bool false]:=rfl

@[simp] theorem aE2:env.ty 85 = .struct [(0,5,true),(5,1,false),(6,1,false),(7,1,false),(8,1,false)] [.int .i64 0, .int .i64 0, .int .i64 0, .int .i64 0, .int .i64 0, .nil, .int .i64 0, .nil, .bool false]:=rfl
@[simp] theorem aE3:env.ty 93 = .slice 179 18 232 [.int .i64 0, .int .i64 0, .int .i64 0, .int .i64 0, .int .i64 0, .nil, .int .i64 0, .bool false, .bool false, .nil, .bool false, .nil, .bool false, .nil, .bool false, .nil, .bool false, .nil]:=rfl

@[simp] theorem aE5:env.ty 95 = .struct [(0,1,false),(1,9,true),(10,1,false),(11,1,false)] [.bool false, .nil, .bool false, .nil, .bool false, .nil, .bool false, .nil, .bool false, .nil, .nil, .int .i64 0]:=rfl
@[simp] theorem aAX:env.ty 102 = .slice 22 1 24 [.nil]:=rfl








@[simp] theorem aA6:env.ty 179 = .struct [(0,7,true),(7,1,false),(8,1,false),(9,9,true)] [.int .i64 0, .int .i64 0, .int .i64 0, .int .i64 0, .int .i64 0, .nil, .int .i64 0, .bool false, .bool false, .nil, .bool false, .nil, .bool false, .nil, .bool false, .nil, .bool false, .nil]:=rfl
@[simp] theorem aA7:env.ty 182 = .int .u64:=rfl
@[simp] theorem apP:env.ty 185 = .int .u32:=rfl
@[simp] theorem aA8:env.ty 186 = .int .u64:=rfl
@[simp] theorem aA9:env.ty 197 = .slice 24 1 24 [.nil]:=rfl

@[simp] theorem aBb:env.ty 199 = .struct [(0,1,false)] [.nil]:=rfl
@[simp] theorem aBc:env.ty 218 = .slice 52 4 64 [.bool false, .nil, .bool false, .nil]:=rfl



@[simp] theorem aBg:env.ty 302 = .int .i32:=rfl
@[simp] theorem aBh:env.ty 303 = .int .i32:=rfl
end Go.Proofs.YtiobceocpabjdaaGreat
