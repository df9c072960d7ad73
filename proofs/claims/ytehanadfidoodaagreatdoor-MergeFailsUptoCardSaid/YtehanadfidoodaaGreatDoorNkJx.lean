/-
  The default locale; the locale that counts; strings in capital letters.
-/
import Derived.Test.YtehanadfidoodaaGreatDoorNkEx
import Derived.Test.YtehanadfidoodaaGreatDoorNkGF1x
namespace Go.Am
set_option linter.unusedSimpArgs false
set_option linter.unusedVariables false
set_option maxRecDepth 100000
def defL:Loc:={
 name:=[112,111,115,105,120]
 w:=(List.range 256).map Int.ofNat
 lo:=(List.range 256).map fun n=>UInt8.ofNat (if 65≤n∧n≤90 then n+32 else n)
 up:=(List.range 256).map fun n=>UInt8.ofNat (if 97≤n∧n≤122 then n-32 else n)
 cls:=[]
 els:=[] }
def As:List AV→Option (List Int)
 |[]=>some []
 |.int .i64 n::r=>match As r with
  |some l=>some (n::l)
  |none=>none
 |_=>none
theorem ZgO:∀ {l:List AV} {r:List Int},As l=some r→l=r.map (AV.int .i64):=by
 intro l
 induction l with
 |nil=>intro r h;simp[As]at h;subst h;rfl
 |cons a l ih =>
  intro r h
  unfold As at h
  split at h
  ·rename_i hh;cases hh
  ·rename_i n r' hh
   injection hh with h1 h2
   subst h1 h2
   split at h
   ·rename_i m hm
    injection h with h
    subst h
    rw[ih hm]
    rfl
   ·cases h
  ·cases h
def Zel (L:Loc)(r:Z3):Bool :=
 match r with
 |some (v,H1)=>match Z9 H1 0 6 v with
  |some (.agg [.str n,.vs 1 .no l,.str lo,.str up,.nils,.nils])=>n==L.name&&(As l==some L.w&&(lo==L.lo&&(up==L.up&&(L.cls.isEmpty&&L.els.isEmpty))))
  |_=>false
 |none=>false
theorem Zbw {f:List AV→Hp→Z3}{L:Loc}{x:Z3}(hx:Zel L x=true)(hg:Gr x (f [] []))(H:Hp):∃ a,Ze f [] H=some (a,H)∧LocAV a L:=by
 unfold Zel at hx
 split at hx
 ·rename_i v H1
  split at hx
  ·rename_i n l lo up hcl
   simp only[Bool.and_eq_true,beq_iff_eq,List.isEmpty_iff]at hx
   obtain⟨h1,h2,h3,h4,h5,h6⟩:=hx
   have hc:=hg _ rfl
   refine⟨.agg [.str n,.vs 1 .no l,.str lo,.str up,.nils,.nils],?_,.vs 1 .no l,.nils,.nils,?_,.inr ⟨.no,?_⟩,.inl ⟨rfl,by rw[h5];rfl⟩,.inl ⟨rfl,by rw[h6];rfl⟩⟩
   ·unfold Ze
    simp only[List.mapM_nil]
    show (match f [] [] with|some (v,H1)=>_|none=>_)=_
    rw[hc]
    simp only[hcl]
   ·rw[h1,h3,h4];rfl
   ·rw[ZgO h2]
  ·cases hx
 ·cases hx
theorem Zgx:Zel defL (Zp5 [])=true:=by kernel_rfl
theorem Zfy:Zel defL (Zrn [])=true:=by kernel_rfl
theorem ZeR (H:Hp):∃ a,Ze TK [] H=some (a,H)∧LocAV a defL:=Zbw Zgx (Zs4 []) H
theorem C1 (H:Hp):∃ a,Ze R3 [] H=some (a,H)∧LocAV a defL:=Zbw Zfy (Zsl []) H
end Go.Am
