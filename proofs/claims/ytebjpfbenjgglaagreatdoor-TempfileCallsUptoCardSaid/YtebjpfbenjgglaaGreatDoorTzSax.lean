/-
  The store, as plain data: what its operations do.
-/
import Derived.Test.YtebjpfbenjgglaaGreatDoorEmXx
namespace Go.Am
set_option linter.unusedSimpArgs false
set_option linter.unusedVariables false
set_option linter.unusedSectionVars false

abbrev Txt:=List UInt8
structure Fil where
 name:Txt
 text:Txt
 syn:Nat
structure Sto where
 limit:Nat
 peak:Nat
 files:List Fil
 crashed:Bool
 count:Nat
def usedL:List Fil→Nat
 | []=>0
 | f :: l=>f.text.length+usedL l
theorem usedL_app (a b:List Fil):usedL (a++b)=usedL a+usedL b:=by
 induction a with
 | nil=>simp [usedL]
 | cons f a ih=>simp only [List.cons_append,usedL,ih];omega
def getF (l:List Fil) (n:Txt):Option Fil:=match l with
 | []=>none
 | f :: r=>if n=f.name then some f else getF r n
def updF (l:List Fil) (n:Txt) (g:Fil→Fil):List Fil:=match l with
 | []=>[]
 | f :: r=>if n=f.name then g f :: r else f :: updF r n g
def rmF (l:List Fil) (n:Txt):List Fil:=match l with
 | []=>[]
 | f :: r=>if n=f.name then r else f :: rmF r n
theorem getF_split {l:List Fil} {n:Txt} {f:Fil} (h:getF l n=some f):∃ a b,l=a++f :: b∧f.name=n∧(∀ g ∈ a,g.name ≠ n)∧(∀ u,updF l n u=a++u f :: b)∧rmF l n=a++b:=by
 induction l with
 | nil=>cases h
 | cons x l ih =>
  unfold getF at h
  split at h
  ·rename_i hn
   injection h with h
   subst h
   exact ⟨[],l,rfl,hn.symm,by simp,fun u=>by simp [updF,hn],by simp [rmF,hn]⟩
  ·rename_i hn
   obtain ⟨a,b,rfl,h2,h3,h4,h5⟩:=ih h
   refine ⟨x :: a,b,rfl,h2,fun g hg=>?_,fun u=>by simp [updF,hn,h4],by simp [rmF,hn,h5]⟩
   rcases List.mem_cons.1 hg with e | hg
   ·subst e;exact fun e=>hn e.symm
   ·exact h3 g hg
theorem getF_none {l:List Fil} {n:Txt}:getF l n=none ↔ ∀ g ∈ l,g.name ≠ n:=by
 induction l with
 | nil=>simp [getF]
 | cons x l ih =>
  unfold getF
  split
  ·rename_i h;simp [h]
  ·rename_i h
   rw [ih]
   constructor
   ·intro k g hg
    rcases List.mem_cons.1 hg with e | hg
    ·subst e;exact fun e=>h e.symm
    ·exact k g hg
   ·intro k g hg;exact k g (List.mem_cons_of_mem _ hg)
def letB (c:UInt8):Bool:=(97≤c && c≤122) || (65≤c && c≤90) || c == 95 || c == 46
def digB (c:UInt8):Bool:=48≤c && c≤57
def nameB (s:Txt):Bool:=(match s with
 | []=>false
 | c :: r=>letB c && r.all fun c=>letB c || digB c) && decide (s.length≤32)
def Sto.tick (s:Sto):Sto:=if s.crashed then s else if s.count=1 then { s with crashed:=true,count:=0 } else { s with count:=s.count - 1 }
def Sto.create (s:Sto) (n:Txt):Int × Sto :=
 if s.tick.crashed then (19,s.tick) else if nameB n=false then (4,s.tick) else match getF s.files n with
 | some _=>(6,s.tick)
 | none=>if 64≤s.files.length then (3,s.tick) else (0,{ s.tick with files:=s.files++[⟨n,[],0⟩] })
def Sto.append (s:Sto) (n t:Txt):Int × Sto :=
 if s.tick.crashed then (19,s.tick) else match getF s.files n with
 | none=>(5,s.tick)
 | some _=>if s.limit < usedL s.files+t.length then (12,s.tick) else (0,{ s.tick with files:=updF s.files n fun f=>{ f with text:=f.text++t },peak:=max s.peak (usedL s.files+t.length) })
def Sto.read (s:Sto) (n:Txt) (at' k:Int):Txt × Int :=
 if s.tick.crashed then ([],19) else match getF s.files n with
 | none=>([],5)
 | some f=>if at' < 0 ∨ (f.text.length:Int) < at' ∨ k < 0 then ([],2) else ((f.text.drop at'.toNat).take k.toNat,0)
def Sto.sync (s:Sto) (n:Txt):Int × Sto :=
 if s.tick.crashed then (19,s.tick) else match getF s.files n with
 | none=>(5,s.tick)
 | some _=>(0,{ s.tick with files:=updF s.files n fun f=>{ f with syn:=f.text.length } })
def Sto.remove (s:Sto) (n:Txt):Int × Sto :=
 if s.tick.crashed then (19,s.tick) else match getF s.files n with
 | none=>(5,s.tick)
 | some _=>(0,{ s.tick with files:=rmF s.files n })
end Go.Am
