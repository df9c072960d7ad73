/-
  tempfile.owned.forget over the abstract machine, in a configuration of its own: written by program (wip/gen.py, wip/nk/fg.py).
-/
import Derived.Test.YtnaneekpogohaaaGreatDoorProg
import Derived.Test.YtnaneekpogohaaaGreatDoorXePfx
namespace Go.Am.Fg
open Go.Am
open Go.Proofs
set_option maxRecDepth 100000
set_option linter.unusedVariables false
set_option linter.unusedSimpArgs false

def keepList:List (Nat × List (Nat × List Nat)):=[]
def userList:List Nat:=[53,73,95,96]
def pureList:List Nat:=[]
def flatList:List Nat:=[]
def extList:List (Nat × ExtK):=[(177,.cmp),(200,.same),(201,.indexByte)]
def roList:List Nat:=[]
def eqList:List Nat:=[]
noncomputable def sumList:List (Nat × (List AV→Option AV)):=[]
noncomputable def effList:List (Nat × EffFn):=[(53,cloneE),(95,delE)]
def bldList:List (Nat × Nat):=[]
def wrbList:List Nat:=[]
def qkList:List (Nat × List Nat):=[]
def linList:List Nat:=[]
noncomputable def cfg:Cfg:={ P:=Tryz.prog,glob:=globN,sum:=fun f=>sumList.lookup f,user:=fun f=>userList.contains f,eqok:=fun t=>eqList.contains t,pure:=fun f=>pureList.contains f,flat:=fun f=>flatList.contains f,ext:=fun f=>extList.lookup f,keep:=keepTab keepList,eff:=fun f=>effList.lookup f,bld:=fun t=>bldList.lookup t,lin:=fun t=>linList.contains t,qk:=fun t a=>qkList.contains (t,a),wrb:=fun t=>wrbList.contains t,ro:=fun f=>roList.contains f }
noncomputable def C_tempfile_owned_forget:List AV→Hp→Res:=callw cfg 73
theorem user_ok:∀ f ∈ userList,UserOk Tryz.prog f :=
 userOk_cons Tryz.call53 (
 userOk_cons Tryz.call73 (
 userOk_cons Tryz.call95 (
 userOk_cons Tryz.call96 (
 userOk_nil))))
theorem eq_ok:∀ t ∈ eqList,Tryz.prog.stoodInHeld t=false∧Tryz.prog.eqGuardType Tryz.prog.depth t=false:=by
 intro t ht
 simp only [eqList,List.mem_cons,List.not_mem_nil,or_false] at ht

theorem ext177_ok (args:Array Value) (w:World):(callFunc 177 args).run Tryz.prog w=(do pure (.value (← extF .cmp args)):Sem Next).run Tryz.prog w:=by kernel_rfl
theorem ext200_ok (args:Array Value) (w:World):(callFunc 200 args).run Tryz.prog w=(do pure (.value (← extF .same args)):Sem Next).run Tryz.prog w:=by kernel_rfl
theorem ext201_ok (args:Array Value) (w:World):(callFunc 201 args).run Tryz.prog w=(do pure (.value (← extF .indexByte args)):Sem Next).run Tryz.prog w:=by kernel_rfl
theorem ext_ok:∀ f e,cfg.ext f=some e→∀ (args:Array Value) (w:World),(callFunc f args).run Tryz.prog w=(do pure (.value (← extF e args)):Sem Next).run Tryz.prog w:=by
 intro f e h
 have h2:=lookup_mem (l:=extList) h
 simp only [extList,List.mem_cons,Prod.mk.injEq,List.not_mem_nil,or_false] at h2
 rcases h2 with ⟨rfl,rfl⟩ | ⟨rfl,rfl⟩ | ⟨rfl,rfl⟩
 ·exact ext177_ok
 ·exact ext200_ok
 ·exact ext201_ok
theorem sum_ok:∀ f g,cfg.sum f=some g→cfg.user f=true∧SumOk cfg f g:=by
 intro f g h
 cases (show (none:Option (List AV→Option AV))=some g from h)
theorem eff_ok:∀ f g,cfg.eff f=some g→cfg.user f=true∧EffOk cfg f g:=by
 intro f g h
 have h2:=lookup_mem (l:=effList) h
 simp only [effList,List.mem_cons,Prod.mk.injEq,List.not_mem_nil,or_false] at h2
 rcases h2 with ⟨rfl,rfl⟩ | ⟨rfl,rfl⟩
 ·exact ⟨by kernel_rfl,cloneE_ok (C:=cfg) rfl (fun _=>rfl)⟩
 ·exact ⟨by kernel_rfl,delE_ok (C:=cfg) rfl (fun _=>rfl)⟩
theorem cfg_ok:okCfg cfg :=
 ⟨fun t h=>eq_ok t (List.contains_iff_mem.1 h),fun f h=>user_ok f (List.contains_iff_mem.1 h),by kernel_rfl,ext_ok,sum_ok,eff_ok⟩
end Go.Am.Fg
