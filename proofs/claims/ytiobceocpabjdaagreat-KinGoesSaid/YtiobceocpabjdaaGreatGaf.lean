import Derived.Test.YtiobceocpabjdaaGreatProg
import Derived.KernelRfl
import Derived.Test.YtiobceocpabjdaaGreatGad
set_option linter.unusedSimpArgs false
set_option linter.unusedVariables false
/- The types of the seat, as the pure machine wants them: closed facts, each by the kernel. -/
namespace Go.Proofs.YtiobceocpabjdaaGreat
open Go Pm
def ti2:TI:=.int .i64
theorem alI:eF Tryz.prog 2 ti2:=⟨by kernel_rfl,(aD (v:=.int .i64 0) (by kernel_rfl) rfl (by kernel_rfl) rfl ar)⟩
def ti3:TI:=.int .i64
theorem alJ:eF Tryz.prog 3 ti3:=⟨by kernel_rfl,(aD (v:=.int .i64 0) (by kernel_rfl) rfl (by kernel_rfl) rfl ar)⟩
def ti4:TI:=.bool
theorem alK:eF Tryz.prog 4 ti4:=⟨by kernel_rfl,(aD (v:=.bool false) (by kernel_rfl) rfl (by kernel_rfl) rfl ar)⟩
def ti5:TI:=.int .u8
theorem alL:eF Tryz.prog 5 ti5:=⟨by kernel_rfl,(aD (v:=.int .u8 0) (by kernel_rfl) rfl (by kernel_rfl) rfl ar)⟩
def ti6:TI:=.int .u8
theorem alM:eF Tryz.prog 6 ti6:=⟨by kernel_rfl,(aD (v:=.int .u8 0) (by kernel_rfl) rfl (by kernel_rfl) rfl ar)⟩




def ti9:TI:=.str
theorem alN:eF Tryz.prog 9 ti9:=⟨by kernel_rfl,(aD (v:=.string ⟨#[]⟩) (by kernel_rfl) rfl (by kernel_rfl) rfl ar)⟩










def alO:TI:=.int .i32
theorem afp:eF Tryz.prog 21 alO:=⟨by kernel_rfl,(aD (v:=.int .i32 0) (by kernel_rfl) rfl (by kernel_rfl) rfl ar)⟩
def alP:TI:=.slice 3 1 8 [.int .i64 0]
theorem afq:eF Tryz.prog 22 alP:=⟨by kernel_rfl,(aD (v:=.slice none 0 0) (by kernel_rfl) rfl (by kernel_rfl) rfl ar),(aD (v:=.int .i64 0) (by kernel_rfl) rfl (by kernel_rfl) rfl ar),df (by kernel_rfl)⟩
def alQ:TI:=.slice 38 2 32 [.bool false, .nil]
theorem afr:eF Tryz.prog 23 alQ:=⟨by kernel_rfl,(aD (v:=.slice none 0 0) (by kernel_rfl) rfl (by kernel_rfl) rfl ar),(aD (v:=.agg #[.bool false, .slice none 0 0]) (by kernel_rfl) rfl (by kernel_rfl) rfl ar),df (by kernel_rfl)⟩
def alR:TI:=.slice 38 2 32 [.bool false, .nil]
theorem afs:eF Tryz.prog 24 alR:=⟨by kernel_rfl,(aD (v:=.slice none 0 0) (by kernel_rfl) rfl (by kernel_rfl) rfl ar),(aD (v:=.agg #[.bool false, .slice none 0 0]) (by kernel_rfl) rfl (by kernel_rfl) rfl ar),df (by kernel_rfl)⟩
def alS:TI:=.slice 31 4 64 [.nil, .bool false, .nil, .bool false]
theorem aft:eF Tryz.prog 26 alS:=⟨by kernel_rfl,(aD (v:=.slice none 0 0) (by kernel_rfl) rfl (by kernel_rfl) rfl ar),(aD (v:=.agg #[.slice none 0 0, .bool false, .slice none 0 0, .bool false]) (by kernel_rfl) rfl (by kernel_rfl) rfl ar),df (by kernel_rfl)⟩
def alT:TI:=.slice 3 1 8 [.int .i64 0]
theorem afu:eF Tryz.prog 27 alT:=⟨by kernel_rfl,(aD (v:=.slice none 0 0) (by kernel_rfl) rfl (by kernel_rfl) rfl ar),(aD (v:=.int .i64 0) (by kernel_rfl) rfl (by kernel_rfl) rfl ar),df (by kernel_rfl)⟩


def alU:TI:=.struct [(0,1,false),(1,1,false)] [.nil, .bool false]
theorem afv:eF Tryz.prog 29 alU:=⟨dE (by kernel_rfl),(aD (v:=.agg #[.slice none 0 0, .bool false]) (by kernel_rfl) rfl (by kernel_rfl) rfl ar)⟩


def alV:TI:=.struct [(0,2,true),(2,2,true)] [.nil, .bool false, .nil, .bool false]
theorem afw:eF Tryz.prog 31 alV:=⟨dE (by kernel_rfl),(aD (v:=.agg #[.slice none 0 0, .bool false, .slice none 0 0, .bool false]) (by kernel_rfl) rfl (by kernel_rfl) rfl ar)⟩
def alW:TI:=.slice 185 1 4 [.int .u32 0]
theorem afx:eF Tryz.prog 36 alW:=⟨by kernel_rfl,(aD (v:=.slice none 0 0) (by kernel_rfl) rfl (by kernel_rfl) rfl ar),(aD (v:=.int .u32 0) (by kernel_rfl) rfl (by kernel_rfl) rfl ar),df (by kernel_rfl)⟩


def alX:TI:=.struct [(0,1,false),(1,1,false)] [.bool false, .nil]
theorem afy:eF Tryz.prog 38 alX:=⟨dE (by kernel_rfl),(aD (v:=.agg #[.bool false, .slice none 0 0]) (by kernel_rfl) rfl (by kernel_rfl) rfl ar)⟩
def alY:TI:=.slice 54 9 152 [.nil, .bool false, .nil, .bool false, .nil, .bool false, .nil, .bool false, .nil]
theorem afz:eF Tryz.prog 41 alY:=⟨by kernel_rfl,(aD (v:=.slice none 0 0) (by kernel_rfl) rfl (by kernel_rfl) rfl ar),(aD (v:=.agg #[.slice none 0 0, .bool false, .slice none 0 0, .bool false, .slice none 0 0, .bool false, .slice none 0 0, .bool false, .slice none 0 0]) (by kernel_rfl) rfl (by kernel_rfl) rfl ar),df (by kernel_rfl)⟩
def alZ:TI:=.int .i64
theorem afA:eF Tryz.prog 42 alZ:=⟨by kernel_rfl,(aD (v:=.int .i64 0) (by kernel_rfl) rfl (by kernel_rfl) rfl ar)⟩
def al0:TI:=.slice 31 4 64 [.nil, .bool false, .nil, .bool false]
theorem afB:eF Tryz.prog 46 al0:=⟨by kernel_rfl,(aD (v:=.slice none 0 0) (by kernel_rfl) rfl (by kernel_rfl) rfl ar),(aD (v:=.agg #[.slice none 0 0, .bool false, .slice none 0 0, .bool false]) (by kernel_rfl) rfl (by kernel_rfl) rfl ar),df (by kernel_rfl)⟩
def al1:TI:=.slice 46 1 24 [.nil]
theorem afC:eF Tryz.prog 47 al1:=⟨by kernel_rfl,(aD (v:=.slice none 0 0) (by kernel_rfl) rfl (by kernel_rfl) rfl ar),(aD (v:=.slice none 0 0) (by kernel_rfl) rfl (by kernel_rfl) rfl ar),df (by kernel_rfl)⟩


def al2:TI:=.struct [(0,1,false),(1,1,false),(2,4,true),(6,4,true)] [.nil, .nil, .nil, .bool false, .nil, .bool false, .nil, .bool false, .nil, .bool false]
theorem afD:eF Tryz.prog 49 al2:=⟨dE (by kernel_rfl),(aD (v:=.agg #[.slice none 0 0, .slice none 0 0, .slice none 0 0, .bool false, .slice none 0 0, .bool false, .slice none 0 0, .bool false, .slice none 0 0, .bool false]) (by kernel_rfl) rfl (by kernel_rfl) rfl ar)⟩


def al3:TI:=.struct [(0,2,true),(2,2,true)] [.bool false, .nil, .bool false, .nil]
theorem afE:eF Tryz.prog 52 al3:=⟨dE (by kernel_rfl),(aD (v:=.agg #[.bool false, .slice none 0 0, .bool false, .slice none 0 0]) (by kernel_rfl) rfl (by kernel_rfl) rfl ar)⟩


def al4:TI:=.struct [(0,1,false),(1,4,true),(5,4,true)] [.nil, .bool false, .nil, .bool false, .nil, .bool false, .nil, .bool false, .nil]
theorem afF:eF Tryz.prog 54 al4:=⟨dE (by kernel_rfl),(aD (v:=.agg #[.slice none 0 0, .bool false, .slice none 0 0, .bool false, .slice none 0 0, .bool false, .slice none 0 0, .bool false, .slice none 0 0]) (by kernel_rfl) rfl (by kernel_rfl) rfl ar)⟩


















def al5:TI:=.arr 3 4 1 [.int .i64 0, .int .i64 0, .int .i64 0, .int .i64 0]
theorem afG:eF Tryz.prog 76 al5:=⟨by kernel_rfl,(aD (v:=.agg #[.int .i64 0, .int .i64 0, .int .i64 0, .int .i64 0]) (by kernel_rfl) rfl (by kernel_rfl) rfl ar),C5 (by kernel_rfl)⟩


def al6:TI:=.struct [(0,1,false),(1,4,true)] [.int .i64 0, .int .i64 0, .int .i64 0, .int .i64 0, .int .i64 0]
theorem afH:eF Tryz.prog 78 al6:=⟨dE (by kernel_rfl),(aD (v:=.agg #[.int .i64 0, .int .i64 0, .int .i64 0, .int .i64 0, .int .i64 0]) (by kernel_rfl) rfl (by kernel_rfl) rfl ar)⟩
def al7:TI:=.slice 82 7 72 [.int .i64 0, .int .i64 0, .int .i64 0, .int .i64 0, .int .i64 0, .nil, .int .i64 0]
theorem afI:eF Tryz.prog 79 al7:=⟨by kernel_rfl,(aD (v:=.slice none 0 0) (by kernel_rfl) rfl (by kernel_rfl) rfl ar),(aD (v:=.agg #[.int .i64 0, .int .i64 0, .int .i64 0, .int .i64 0, .int .i64 0, .slice none 0 0, .int .i64 0]) (by kernel_rfl) rfl (by kernel_rfl) rfl ar),df (by kernel_rfl)⟩
def al8:TI:=.slice 85 9 104 [.int .i64 0, .int .i64 0, .int .i64 0, .int .i64 0, .int .i64 0, .nil, .int .i64 0, .nil, .bool false]
theorem afJ:eF Tryz.prog 80 al8:=⟨by kernel_rfl,(aD (v:=.slice none 0 0) (by kernel_rfl) rfl (by kernel_rfl) rfl ar),(aD (v:=.agg #[.int .i64 0, .int .i64 0, .int .i64 0, .int .i64 0, .int .i64 0, .slice none 0 0, .int .i64 0, .slice none 0 0, .bool false]) (by kernel_rfl) rfl (by kernel_rfl) rfl ar),df (by kernel_rfl)⟩


def al9:TI:=.struct [(0,5,true),(5,1,false),(6,1,false)] [.int .i64 0, .int .i64 0, .int .i64 0, .int .i64 0, .int .i64 0, .nil, .int .i64 0]
theorem afK:eF Tryz.prog 82 al9:=⟨dE (by kernel_rfl),(aD (v:=.agg #[.int .i64 0, .int .i64 0, .int .i64 0, .int .i64 0, .int .i64 0, .slice none 0 0, .int .i64 0]) (by kernel_rfl) rfl (by kernel_rfl) rfl ar)⟩
def ama:TI:=.slice 49 10 176 [.nil, .nil, .nil, .bool false, .nil, .bool false, .nil, .bool false, .nil, .bool false]
theorem afL:eF Tryz.prog 83 ama:=⟨by kernel_rfl,(aD (v:=.slice none 0 0) (by kernel_rfl) rfl (by kernel_rfl) rfl ar),(aD (v:=.agg #[.slice none 0 0, .slice none 0 0, .slice none 0 0, .bool false, .slice none 0 0, .bool false, .slice none 0 0, .bool false, .slice none 0 0, .bool false]) (by kernel_rfl) rfl (by kernel_rfl) rfl ar),df (by kernel_rfl)⟩


def amb:TI:=.struct [(0,5,true),(5,1,false),(6,1,false),(7,1,false),(8,1,false)] [.int .i64 0, .int .i64 0, .int .i64 0, .int .i64 0, .int .i64 0, .nil, .int .i64 0, .nil, .bool false]
theorem afM:eF Tryz.prog 85 amb:=⟨dE (by kernel_rfl),(aD (v:=.agg #[.int .i64 0, .int .i64 0, .int .i64 0, .int .i64 0, .int .i64 0, .slice none 0 0, .int .i64 0, .slice none 0 0, .bool false]) (by kernel_rfl) rfl (by kernel_rfl) rfl ar)⟩
def amc:TI:=.slice 179 18 232 [.int .i64 0, .int .i64 0, .int .i64 0, .int .i64 0, .int .i64 0, .nil, .int .i64 0, .bool false, .bool false, .nil, .bool false, .nil, .bool false, .nil, .bool false, .nil, .bool false, .nil]
theorem afN:eF Tryz.prog 93 amc:=⟨by kernel_rfl,(aD (v:=.slice none 0 0) (by kernel_rfl) rfl (by kernel_rfl) rfl ar),(aD (v:=.agg #[.int .i64 0, .int .i64 0, .int .i64 0, .int .i64 0, .int .i64 0, .slice none 0 0, .int .i64 0, .bool false, .bool false, .slice none 0 0, .bool false, .slice none 0 0, .bool false, .slice none 0 0, .bool false, .slice none 0 0, .bool false, .slice none 0 0]) (by kernel_rfl) rfl (by kernel_rfl) rfl ar),df (by kernel_rfl)⟩


def amd:TI:=.struct [(0,1,false),(1,9,true),(10,1,false),(11,1,false)] [.bool false, .nil, .bool false, .nil, .bool false, .nil, .bool false, .nil, .bool false, .nil, .nil, .int .i64 0]
theorem afO:eF Tryz.prog 95 amd:=⟨dE (by kernel_rfl),(aD (v:=.agg #[.bool false, .slice none 0 0, .bool false, .slice none 0 0, .bool false, .slice none 0 0, .bool false, .slice none 0 0, .bool false, .slice none 0 0, .slice none 0 0, .int .i64 0]) (by kernel_rfl) rfl (by kernel_rfl) rfl ar)⟩
def acr:TI:=.slice 22 1 24 [.nil]
theorem Y1:eF Tryz.prog 102 acr:=⟨by kernel_rfl,(aD (v:=.slice none 0 0) (by kernel_rfl) rfl (by kernel_rfl) rfl ar),(aD (v:=.slice none 0 0) (by kernel_rfl) rfl (by kernel_rfl) rfl ar),df (by kernel_rfl)⟩
















def acs:TI:=.struct [(0,7,true),(7,1,false),(8,1,false),(9,9,true)] [.int .i64 0, .int .i64 0, .int .i64 0, .int .i64 0, .int .i64 0, .nil, .int .i64 0, .bool false, .bool false, .nil, .bool false, .nil, .bool false, .nil, .bool false, .nil, .bool false, .nil]
theorem Y2:eF Tryz.prog 179 acs:=⟨dE (by kernel_rfl),(aD (v:=.agg #[.int .i64 0, .int .i64 0, .int .i64 0, .int .i64 0, .int .i64 0, .slice none 0 0, .int .i64 0, .bool false, .bool false, .slice none 0 0, .bool false, .slice none 0 0, .bool false, .slice none 0 0, .bool false, .slice none 0 0, .bool false, .slice none 0 0]) (by kernel_rfl) rfl (by kernel_rfl) rfl ar)⟩
def acu:TI:=.int .u64
theorem Y3:eF Tryz.prog 182 acu:=⟨by kernel_rfl,(aD (v:=.int .u64 0) (by kernel_rfl) rfl (by kernel_rfl) rfl ar)⟩
def acv:TI:=.int .u32
theorem Y4:eF Tryz.prog 185 acv:=⟨by kernel_rfl,(aD (v:=.int .u32 0) (by kernel_rfl) rfl (by kernel_rfl) rfl ar)⟩
def acw:TI:=.int .u64
theorem Y5:eF Tryz.prog 186 acw:=⟨by kernel_rfl,(aD (v:=.int .u64 0) (by kernel_rfl) rfl (by kernel_rfl) rfl ar)⟩
def acx:TI:=.slice 24 1 24 [.nil]
theorem Y6:eF Tryz.prog 197 acx:=⟨by kernel_rfl,(aD (v:=.slice none 0 0) (by kernel_rfl) rfl (by kernel_rfl) rfl ar),(aD (v:=.slice none 0 0) (by kernel_rfl) rfl (by kernel_rfl) rfl ar),df (by kernel_rfl)⟩


def acy:TI:=.struct [(0,1,false)] [.nil]
theorem Y7:eF Tryz.prog 199 acy:=⟨dE (by kernel_rfl),(aD (v:=.agg #[.slice none 0 0]) (by kernel_rfl) rfl (by kernel_rfl) rfl ar)⟩
def acz:TI:=.slice 52 4 64 [.bool false, .nil, .bool false, .nil]
theorem Y8:eF Tryz.prog 218 acz:=⟨by kernel_rfl,(aD (v:=.slice none 0 0) (by kernel_rfl) rfl (by kernel_rfl) rfl ar),(aD (v:=.agg #[.bool false, .slice none 0 0, .bool false, .slice none 0 0]) (by kernel_rfl) rfl (by kernel_rfl) rfl ar),df (by kernel_rfl)⟩






def acA:TI:=.int .i32
theorem Y9:eF Tryz.prog 302 acA:=⟨by kernel_rfl,(aD (v:=.int .i32 0) (by kernel_rfl) rfl (by kernel_rfl) rfl ar)⟩
def acB:TI:=.int .i32
theorem Za:eF Tryz.prog 303 acB:=⟨by kernel_rfl,(aD (v:=.int .i32 0) (by kernel_rfl) rfl (by kernel_rfl) rfl ar)⟩
def tyF:TypeId->TI
  | 2=>ti2
  | 3=>ti3
  | 4=>ti4
  | 5=>ti5
  | 6=>ti6


  | 9=>ti9





  | 21=>alO
  | 22=>alP
  | 23=>alQ
  | 24=>alR
  | 26=>alS
  | 27=>alT

  | 29=>alU

  | 31=>alV
  | 36=>alW

  | 38=>alX
  | 41=>alY
  | 42=>alZ
  | 46=>al0
  | 47=>al1

  | 49=>al2

  | 52=>al3

  | 54=>al4









  | 76=>al5

  | 78=>al6
  | 79=>al7
  | 80=>al8

  | 82=>al9
  | 83=>ama

  | 85=>amb
  | 93=>amc

  | 95=>amd
  | 102=>acr








  | 179=>acs
  | 182=>acu
  | 185=>acv
  | 186=>acw
  | 197=>acx

  | 199=>acy
  | 218=>acz



  | 302=>acA
  | 303=>acB
  | _ => .other
theorem arw(t:TypeId):eF Tryz.prog t (tyF t):=by
  unfold tyF
  split
  · exact alI
  · exact alJ
  · exact alK
  · exact alL
  · exact alM


  · exact alN





  · exact afp
  · exact afq
  · exact afr
  · exact afs
  · exact aft
  · exact afu

  · exact afv

  · exact afw
  · exact afx

  · exact afy
  · exact afz
  · exact afA
  · exact afB
  · exact afC

  · exact afD

  · exact afE

  · exact afF









  · exact afG

  · exact afH
  · exact afI
  · exact afJ

  · exact afK
  · exact afL

  · exact afM
  · exact afN

  · exact afO
  · exact Y1








  · exact Y2
  · exact Y3
  · exact Y4
  · exact Y5
  · exact Y6

  · exact Y7
  · exact Y8



  · exact Y9
  · exact Za
  · trivial
theorem Zb:Tryz.prog.follows .mixedOrders=true:=by kernel_rfl
def EZ(g:FuncId):Bool:=g==37 || g==50 || g==72 || g==184 || g==270 || g==271
def vz(g:FuncId):Bool:=g==42 || g==43 || g==44 || g==47 || g==49 || g==51 || g==52 || g==55 || g==109 || g==120 || g==191
noncomputable def env:Env:=⟨Tryz.prog,tyF,arw,Zb,EZ,vz⟩
@[simp] theorem apo:env.writes=EZ:=rfl
@[simp] theorem ame:env.uN=vz:=rfl
attribute [simp] EZ vz
@[simp] theorem axz:env.ty 2 = .int .i64:=rfl
@[simp] theorem arx:env.ty 3 = .int .i64:=rfl
@[simp] theorem axA:env.ty 4 = .bool:=rfl
@[simp] theorem amf:env.ty 5 = .int .u8:=rfl
@[simp] theorem axB:env.ty 6 = .int .u8:=rfl


@[simp] theorem axC:env.ty 9 = .str:=rfl





@[simp] theorem au1:env.ty 21 = .int .i32:=rfl
@[simp] theorem au2:env.ty 22 = .slice 3 1 8 [.int .i64 0]:=rfl
@[simp] theorem au3:env.ty 23 = .slice 38 2 32 [.bool false, .nil]:=rfl
@[simp] theorem au4:env.ty 24 = .slice 38 2 32 [.bool false, .nil]:=rfl
@[simp] theorem au5:env.ty 26 = .slice 31 4 64 [.nil, .bool false, .nil, .bool false]:=rfl
@[simp] theorem au6:env.ty 27 = .slice 3 1 8 [.int .i64 0]:=rfl

@[simp] theorem au7:env.ty 29 = .struct [(0,1,false),(1,1,false)] [.nil, .bool false]:=rfl

@[simp] theorem au8:env.ty 31 = .struct [(0,2,true),(2,2,true)] [.nil, .bool false, .nil, .bool false]:=rfl
@[simp] theorem au9:env.ty 36 = .slice 185 1 4 [.int .u32 0]:=rfl

@[simp] theorem ava:env.ty 38 = .struct [(0,1,false),(1,1,false)] [.bool false, .nil]:=rfl
@[simp] theorem avb:env.ty 41 = .slice 54 9 152 [.nil, .bool false, .nil, .bool false, .nil, .bool false, .nil, .bool false, .nil]:=rfl
@[simp] theorem avc:env.ty 42 = .int .i64:=rfl
@[simp] theorem avd:env.ty 46 = .slice 31 4 64 [.nil, .bool false, .nil, .bool false]:=rfl
@[simp] theorem ave:env.ty 47 = .slice 46 1 24 [.nil]:=rfl

@[simp] theorem avf:env.ty 49 = .struct [(0,1,false),(1,1,false),(2,4,true),(6,4,true)] [.nil, .nil, .nil, .bool false, .nil, .bool false, .nil, .bool false, .nil, .bool false]:=rfl

@[simp] theorem avg:env.ty 52 = .struct [(0,2,true),(2,2,true)] [.bool false, .nil, .bool false, .nil]:=rfl

@[simp] theorem avh:env.ty 54 = .struct [(0,1,false),(1,4,true),(5,4,true)] [.nil, .bool false, .nil, .bool false, .nil, .bool false, .nil, .bool false, .nil]:=rfl









@[simp] theorem avi:env.ty 76 = .arr 3 4 1 [.int .i64 0, .int .i64 0, .int .i64 0, .int .i64 0]:=rfl

@[simp] theorem avj:env.ty 78 = .struct [(0,1,false),(1,4,true)] [.int .i64 0, .int .i64 0, .int .i64 0, .int .i64 0, .int .i64 0]:=rfl
@[simp] theorem avk:env.ty 79 = .slice 82 7 72 [.int .i64 0, .int .i64 0, .int .i64 0, .int .i64 0, .int .i64 0, .nil, .int .i64 0]:=rfl
@[simp] theorem avl:env.ty 80 = .slice 85 9 104 [.int .i64 0, .int .i64 0, .int .i64 0, .int .i64 0, .int .i64 0, .nil, .int .i64 0, .nil, .bool false]:=rfl

@[simp] theorem avm:env.ty 82 = .struct [(0,5,true),(5,1,false),(6,1,false)] [.int .i64 0, .int .i64 0, .int .i64 0, .int .i64 0, .int .i64 0, .nil, .int .i64 0]:=rfl
@[simp] theorem avn:env.ty 83 = .slice 49 10 176 [.nil, .nil, .nil, .bool false, .nil, .bool false, .nil, .bool false, .nil, .bool false]:=rfl

@[simp] theorem avo:env.ty 85 = .struct [(0,5,true),(5,1,false),(6,1,false),(7,1,false),(8,1,false)] [.int .i64 0, .int .i64 0, .int .i64 0, .int .i64 0, .int .i64 0, .nil, .int .i64 0, .nil, .bool false]:=rfl
@[simp] theorem avp:env.ty 93 = .slice 179 18 232 [.int .i64 0, .int .i64 0, .int .i64 0, .int .i64 0, .int .i64 0, .nil, .int .i64 0, .bool false, .bool false, .nil, .bool false, .nil, .bool false, .nil, .bool false, .nil, .bool false, .nil]:=rfl

@[simp] theorem avq:env.ty 95 = .struct [(0,1,false),(1,9,true),(10,1,false),(11,1,false)] [.bool false, .nil, .bool false, .nil, .bool false, .nil, .bool false, .nil, .bool false, .nil, .nil, .int .i64 0]:=rfl
@[simp] theorem ary:env.ty 102 = .slice 22 1 24 [.nil]:=rfl








@[simp] theorem arz:env.ty 179 = .struct [(0,7,true),(7,1,false),(8,1,false),(9,9,true)] [.int .i64 0, .int .i64 0, .int .i64 0, .int .i64 0, .int .i64 0, .nil, .int .i64 0, .bool false, .bool false, .nil, .bool false, .nil, .bool false, .nil, .bool false, .nil, .bool false, .nil]:=rfl
@[simp] theorem arA:env.ty 182 = .int .u64:=rfl
@[simp] theorem afP:env.ty 185 = .int .u32:=rfl
@[simp] theorem arB:env.ty 186 = .int .u64:=rfl
@[simp] theorem arC:env.ty 197 = .slice 24 1 24 [.nil]:=rfl

@[simp] theorem arD:env.ty 199 = .struct [(0,1,false)] [.nil]:=rfl
@[simp] theorem arE:env.ty 218 = .slice 52 4 64 [.bool false, .nil, .bool false, .nil]:=rfl



@[simp] theorem arF:env.ty 302 = .int .i32:=rfl
@[simp] theorem arG:env.ty 303 = .int .i32:=rfl
end Go.Proofs.YtiobceocpabjdaaGreat
