/-
  The document's Merge in the machine.
-/
import Derived.Test.YtehanadfidoodaaGreatDoorTkYax
import Derived.Test.YtehanadfidoodaaGreatDoorTkGMx
namespace Go.Am
set_option linter.unusedSimpArgs false
set_option linter.unusedVariables false
set_option linter.unusedSectionVars false
set_option maxRecDepth 100000

def Zjy (L:Loc) (p:Spec) (ls:List (List Str)):List Str:=if (Zb4 p != 0)=true then ls.flatten else Zor L p ls
theorem ZmV {H:Hp} {i:Nat} {L:Loc} {x c e:AV} (h:H[i]?=some (.cells (L.cells x c e))):Za2 true 6 (.ptr i 0) H=some (.agg (L.cells x c e)):=by
 rw [ZeX h];simp [Go.Am.apart,Loc.cells]
theorem Zfp {H:Hp} {i:Nat} {p:Spec} {x:AV} (h:H[i]?=some (.cells (p.cells x))):Za2 true 5 (.ptr i 0) H=some (.agg (p.cells x)):=by
 rw [ZeX h];simp [Go.Am.apart,Spec.cells]
theorem st {H:Hp} {o:Nat} {l:List AV} (h:H[o]?=some (.cells l)) (i:Nat) {v:AV} (hv:v.cells=[v]) (hk:v.known=true) (hi:i < l.length):Zag 1 (.ptr o (0+i)) v H=some (.tuple [],H.set o (.cells (l.set i v))):=by
 rw [Nat.zero_add,Zh1 h hk (by rw [hv];rfl) (by omega),hv]
 congr 4
 have:=ZCc (l:=l) (i:=i) (a:=v) hi
 rwa [Nat.mul_one] at this
theorem ldn {H:Hp} {o:Nat} {l:List AV} (h:H[o]?=some (.cells l)) (i:Nat) {v:AV} (hv:l[i]?=some v):Za2 false 1 (.ptr o i) H=some v:=by
 rw [ZeX h];exact hv
theorem stn {H:Hp} {o:Nat} {l:List AV} (h:H[o]?=some (.cells l)) (i:Nat) {v:AV} (hv:v.cells=[v]) (hk:v.known=true) (hi:i < l.length):Zag 1 (.ptr o i) v H=some (.tuple [],H.set o (.cells (l.set i v))):=by
 have:=st h i hv hk hi
 rwa [Nat.zero_add] at this
def Zb5 (ls:List (List Str)) (ats:List Nat):List (List Str):=List.zipWith (fun l k=>l.drop k) ls ats
theorem ZiR {ls:List (List Str)} {ats:List Nat} {i k:Nat} {l:List Str} (h1:ls[i]?=some l) (h2:ats[i]?=some k):(Zb5 ls ats)[i]?=some (l.drop k):=by
 simp [Zb5,List.getElem?_zipWith,h1,h2]
theorem ZjA {ls:List (List Str)} {ats:List Nat} (h:ats.length=ls.length):(Zb5 ls ats).length=ls.length:=by
 simp [Zb5,h]
theorem ZDO {ls:List (List Str)} {ats:List Nat} (h:ats.length=ls.length) {i k:Nat} {l:List Str} (h1:ls[i]?=some l) (h2:ats[i]?=some k):(Zb5 ls ats).drop i=l.drop k :: (Zb5 ls ats).drop (i+1):=by
 have hi:i < (Zb5 ls ats).length:=by rw [ZjA h];exact (List.getElem?_eq_some_iff.1 h1).1
 rw [List.drop_eq_getElem_cons hi]
 have:=ZiR h1 h2
 rw [List.getElem?_eq_getElem hi] at this
 injection this with this
 rw [this]
theorem Zx8 (ls:List (List Str)):Zb5 ls (List.replicate ls.length 0)=ls:=by
 induction ls with
 | nil=>rfl
 | cons l ls ih=>rw [List.length_cons,List.replicate_succ];show l.drop 0 :: Zb5 ls _=_;rw [ih];rfl
theorem ZyL {ls:List (List Str)} {ats:List Nat} (h:ats.length=ls.length) {k m:Nat} (hm:ats[k]?=some m):Zb5 ls (ats.set k (m+1))=(Zb5 ls ats).set k (((Zb5 ls ats).getD k []).drop 1):=by
 have hk:=(List.getElem?_eq_some_iff.1 hm).1
 have hl:ls[k]?=some (ls[k]'(by omega)):=List.getElem?_eq_getElem (by omega)
 have hr:=ZiR hl hm
 refine List.ext_getElem? fun j=>?_
 by_cases e:j=k
 ·subst e
  rw [List.getElem?_set_self (by rw [ZjA h];omega),List.getD_eq_getElem?_getD,hr]
  rw [ZiR hl (List.getElem?_set_self hk)]
  simp [List.drop_drop,Nat.add_comm]
 ·rw [List.getElem?_set_ne (fun e'=>e e'.symm)]
  simp only [Zb5,List.getElem?_zipWith]
  rw [List.getElem?_set_ne (fun e'=>e e'.symm)]
def Zp0:Option (Nat × Str)→Int
 | none=>-1
 | some (k,_)=>(k:Int)
theorem Zxh {α:Type}:∀ (ls:List (List α)) (k:Nat) (a:α) (t:List α),ls[k]?=some (a :: t)→Zas (ls.set k t)+1=Zas ls:=by
 intro ls
 induction ls with
 | nil=>intro k a t h;simp at h
 | cons x ls ih =>
  intro k a t h
  cases k with
  | zero=>simp at h;subst h;simp [Zas];omega
  | succ k=>simp at h;have:=ih k a t h;simp [Zas];omega
theorem ZzG {o n i:Nat} (h:i < n):Zad 1 (.rs false 1 o 0 n n) (.int .i64 (i:Int))=some (.ptr o i):=by
 unfold Zad
 dsimp only
 rw [if_pos (by omega)]
 simp
section
variable {L:Loc} {lx c e:AV} (hav:LocAV (.agg (L.cells lx c e)) L) (hok:LocOk L) {p:Spec} {xp:AV} (hsp:SpecAV (.agg (p.cells xp)) p) (hks:∀ k ∈ p.keys,KeOk k)
 {x:AV} {ls:List (List Str)} (hx:LsV x ls) (hL:Zhi ls) (ht:Zas ls≤1048576) (hl:ls.length≤1048576)
include hav hok hsp hks hx hL ht hl
theorem Zu7 {i3 i4 o : Nat} {H : Hp} {ats : List Nat} (g3 : H[i3]? = some (.cells (L.cells lx c e))) (g4 : H[i4]? = some (.cells (p.cells xp))) (go : H[o]? = some (.cells (ats.map fun k : Nat => AV.int .i64 (k : Int)))) (hal : ats.length = ls.length) (x7 : AV) (H0 : Hp) :
    ∀ (m i:Nat) (b:Option (Nat × Str)),ls.length - i=m→i≤ls.length→(∀ j d,b=some (j,d)→∃ t,(Zb5 ls ats)[j]?=some (d :: t)) →
    ZhG x (.ptr i3 0) (.ptr i4 0) x7 (.rs false 1 o 0 ls.length ls.length) (.int .i64 (Zp0 b)) (.int .i64 (i:Int)) H0 H =
     ZeW x (.ptr i3 0) (.ptr i4 0) x7 (.rs false 1 o 0 ls.length ls.length) (.int .i64 (Zp0 (ZaS (ZaA L p) ((Zb5 ls ats).drop i) i b))) H0 H:=by
 have hn:=hx.len 32
 have hl6:=ZmV g3
 have hl5:=Zfp g4
 have hat:∀ {i k:Nat},ats[i]?=some k→Za2 false 1 (.ptr o i) H=some (.int .i64 (k:Int)):=fun {i k} h=>ldn go i (by simp [h])
 have hlens:∀ l ∈ ls,l.length≤1048576:=fun l hm=>by
  have:∀ (ls:List (List Str)),l ∈ ls→l.length≤Zas ls:=by
   intro ls
   induction ls with
   | nil=>intro h;cases h
   | cons m ls ih =>
    intro h
    rcases List.mem_cons.1 h with h | h
    ·subst h;simp [Zas]
    ·have:=ih h;simp [Zas];omega
  have:=this ls hm
  omega
 intro m
 induction m with
 | zero =>
  intro i b hm hi hb
  have hlt:decide ((i:Int) < (ls.length:Int))=false:=by rw [decide_eq_false_iff_not];omega
  have e0:(Zb5 ls ats).drop i=[]:=List.drop_eq_nil_iff.2 (by rw [ZjA hal];omega)
  rw [ZhH,e0]
  simp only [hn,go_sem,hlt]
  rfl
 | succ m ih =>
  intro i b hm hi hb
  have hil:i < ls.length:=by omega
  have hlt:decide ((i:Int) < (ls.length:Int))=true:=by rw [decide_eq_true_eq];omega
  have hw1:IntKind.i64.wrap ((i:Int)+1)=((i+1:Nat):Int):=by rw [Zai (by omega) (by omega)];omega
  have h1:ls[i]?=some ls[i]:=List.getElem?_eq_getElem hil
  have h2:ats[i]?=some (ats[i]'(by omega)):=List.getElem?_eq_getElem (by omega)
  generalize hli:ls[i]=l at h1
  generalize hki:(ats[i]'(by omega))=k at h2
  obtain ⟨a,q1,q2⟩:=hx.get' h1
  have hal2:=q2.len 9
  have hll:=hlens l (List.mem_of_getElem? h1)
  rw [ZhH,ZDO hal h1 h2]
  simp only [hn,go_sem,hlt,Zw6,ZzG hil,hat h2,q1,Zan,hal2]
  have key : ∀ b' : Option (Nat × Str), (∀ j d, b' = some (j, d) → ∃ t, (Zb5 ls ats)[j]? = some (d :: t)) →
      ZhC x (.ptr i3 0) (.ptr i4 0) x7 (.rs false 1 o 0 ls.length ls.length) (.int .i64 (Zp0 b')) (.int .i64 (i:Int)) H0 H=ZeW x (.ptr i3 0) (.ptr i4 0) x7 (.rs false 1 o 0 ls.length ls.length) (.int .i64 (Zp0 (ZaS (ZaA L p) ((Zb5 ls ats).drop (i+1)) (i+1) b'))) H0 H:=fun b' hb'=>by
   rw [Zw7]
   simp only [go_sem,hw1]
   exact ih (i+1) b' (by omega) (by omega) hb'
  by_cases hk:k < l.length
  ·have e1:decide ((k:Int) < (l.length:Int))=true:=by rw [decide_eq_true_eq];omega
   have hc:l.drop k=l[k] :: l.drop (k+1):=List.drop_eq_getElem_cons hk
   have hnew:∀ j d,some (i,l[k])=some (j,d)→∃ t,(Zb5 ls ats)[j]?=some (d :: t):=fun j d e'=>by
    injection e' with e'
    injection e' with e2 e3
    subst e2 e3
    exact ⟨l.drop (k+1),by rw [ZiR h1 h2,hc]⟩
   rw [hc]
   cases b with
   | none =>
    have e2:decide ((-1:Int) < 0)=true:=rfl
    rw [ZnC]
    simp only [e1,Zp0,e2,go_sem]
    exact key (some (i,l[k])) hnew
   | some q =>
    obtain ⟨j,d⟩:=q
    have e2:decide ((j:Int) < 0)=false:=by rw [decide_eq_false_iff_not];omega
    obtain ⟨t,hjt⟩:=hb j d rfl
    have hjl:j < ls.length:=by
     have:=(List.getElem?_eq_some_iff.1 hjt).1
     rwa [ZjA hal] at this
    have h3:ls[j]?=some ls[j]:=List.getElem?_eq_getElem hjl
    have h4:ats[j]?=some (ats[j]'(by omega)):=List.getElem?_eq_getElem (by omega)
    generalize hlj:ls[j]=l' at h3
    generalize hkj:(ats[j]'(by omega))=k' at h4
    obtain ⟨a',u1,u2⟩:=hx.get' h3
    rw [ZiR h3 h4] at hjt
    injection hjt with hjt
    have hd:l'[k']?=some d:=by
     have:(l'.drop k')[0]?=some d:=by rw [hjt];rfl
     rwa [List.getElem?_drop,Nat.add_zero] at this
    have i1:=SS.idx u2 hd
    have i2:=SS.idx q2 (List.getElem?_eq_getElem hk)
    have ho:=ZFP hav hok hsp hks d l[k] (hL l' (List.mem_of_getElem? h3) d (List.mem_of_getElem? hd)) (hL l (List.mem_of_getElem? h1) _ (List.getElem_mem hk)) H
    rw [ZnD]
    simp only [e1,Zp0,e2,go_sem,hl6,hl5,u1,Zan,ZzG hjl,hat h4,i1,q1,ZzG hil,hat h2,i2,ho]
    by_cases hg:0 < ZaA L p d l[k]
    ·have e3:decide (0 < ZaA L p d l[k])=true:=decide_eq_true hg
     simp only [e3,go_sem,if_pos hg]
     exact key (some (i,l[k])) hnew
    ·have e3:decide (0 < ZaA L p d l[k])=false:=decide_eq_false hg
     simp only [e3,go_sem,if_neg hg]
     exact key (some (j,d)) hb
  ·have e1:decide ((k:Int) < (l.length:Int))=false:=by rw [decide_eq_false_iff_not];omega
   have hc:l.drop k=[]:=List.drop_eq_nil_iff.2 (by omega)
   rw [hc,Zpe]
   simp only [e1,go_sem]
   exact key b hb
theorem ZBM {i3 i4 o : Nat} (h34 : i3 ≠ o ∧ i4 ≠ o) : ∀ (n : Nat) (ats : List Nat) (acc : List Str) (x7 : AV) (H : Hp), Zas (Zb5 ls ats) = n → ats.length = ls.length → acc.length + n ≤ 1048576 → Lens acc → RS H x7 acc →
    H[i3]?=some (.cells (L.cells lx c e))→H[i4]?=some (.cells (p.cells xp))→H[o]?=some (.cells (ats.map fun k:Nat=>AV.int .i64 (k:Int))) →
    ∃ y,ZhF x (.ptr i3 0) (.ptr i4 0) x7 (.rs false 1 o 0 ls.length ls.length) [] H=some (y,[])∧SS y (if p.uniq then Zcp (ZaO L p) [] (acc++Zcd (ZaA L p) n (Zb5 ls ats)) else acc++Zcd (ZaA L p) n (Zb5 ls ats)):=by
 have hend : ∀ (acc : List Str) (x7 : AV) (H : Hp), acc.length ≤ 1048576 → Lens acc → RS H x7 acc → H[i3]? = some (.cells (L.cells lx c e)) → H[i4]? = some (.cells (p.cells xp)) →
     ∃ y,ZeW x (.ptr i3 0) (.ptr i4 0) x7 (.rs false 1 o 0 ls.length ls.length) (.int .i64 (-1)) [] H=some (y,[])∧SS y (if p.uniq then Zcp (ZaO L p) [] acc else acc):=by
  intro acc x7 H ha hLa h7 g3 g4
  obtain ⟨z,r1,r2⟩:=Zxc hav hok hsp hks h7.sl hLa ha H
  have e2:decide ((-1:Int) < 0)=true:=rfl
  obtain ⟨y,s1,s2⟩:=Zju (H0:=[]) (H:=H) (fun i hi=>by simp at hi) (Nat.zero_le _) r2 (fun c hc=>by obtain ⟨m,_,rfl⟩:=List.mem_map.1 hc;rfl)
  refine ⟨y,?_,s2⟩
  rw [ZhB]
  simp only [go_sem,e2,ZmV g3,Zfp g4,r1,s1]
 intro n
 induction n with
 | zero =>
  intro ats acc x7 H hn hal hc hLa h7 g3 g4 go
  have hlp:=Zu7 hav hok hsp hks hx hL ht hl g3 g4 go hal x7 [] ls.length 0 none (by omega) (Nat.zero_le _) (fun j d e'=>by cases e')
  have hnone:ZaS (ZaA L p) (Zb5 ls ats) 0 none=none:=by
   cases hg:ZaS (ZaA L p) (Zb5 ls ats) 0 none with
   | none=>rfl
   | some q =>
    obtain ⟨k,a⟩:=q
    obtain ⟨t,hkt⟩:=(ZlN (ZaA L p) (Zb5 ls ats) [] none (fun k a e=>(by cases e)) (fun _ l hl=>(by cases hl))).1 k a hg
    rw [List.nil_append] at hkt
    have:=Zxh _ k a t hkt
    omega
  rw [List.drop_zero,hnone] at hlp
  obtain ⟨y,r1,r2⟩:=hend acc x7 H (by omega) hLa h7 g3 g4
  refine ⟨y,?_,by rw [show Zcd (ZaA L p) 0 (Zb5 ls ats)=[] from rfl,List.append_nil];exact r2⟩
  rw [ZeH]
  exact hlp.trans r1
 | succ n ih =>
  intro ats acc x7 H hn hal hc hLa h7 g3 g4 go
  have hlp:=Zu7 hav hok hsp hks hx hL ht hl g3 g4 go hal x7 [] ls.length 0 none (by omega) (Nat.zero_le _) (fun j d e'=>by cases e')
  rw [List.drop_zero] at hlp
  cases hg:ZaS (ZaA L p) (Zb5 ls ats) 0 none with
  | none =>
   rw [hg] at hlp
   obtain ⟨y,r1,r2⟩:=hend acc x7 H (by omega) hLa h7 g3 g4
   refine ⟨y,?_,by rw [ZnG hg,List.append_nil];exact r2⟩
   rw [ZeH]
   exact hlp.trans r1
  | some q =>
   obtain ⟨k,a⟩:=q
   rw [hg] at hlp
   obtain ⟨t,hkt⟩:=(ZlN (ZaA L p) (Zb5 ls ats) [] none (fun k a e=>(by cases e)) (fun _ l hl=>(by cases hl))).1 k a hg
   rw [List.nil_append] at hkt
   have hkl:k < ls.length:=by
    have:=(List.getElem?_eq_some_iff.1 hkt).1
    rwa [ZjA hal] at this
   have h1:ls[k]?=some ls[k]:=List.getElem?_eq_getElem hkl
   have h2:ats[k]?=some (ats[k]'(by omega)):=List.getElem?_eq_getElem (by omega)
   generalize hlk:ls[k]=l at h1
   generalize hmk:(ats[k]'(by omega))=m at h2
   have hkt2:=hkt
   rw [ZiR h1 h2] at hkt2
   injection hkt2 with hkt2
   have hd:l[m]?=some a:=by
    have:(l.drop m)[0]?=some a:=by rw [hkt2];rfl
    rwa [List.getElem?_drop,Nat.add_zero] at this
   have hml:=(List.getElem?_eq_some_iff.1 hd).1
   have hll:l.length≤1048576:=by
    have:∀ (ls:List (List Str)),l ∈ ls→l.length≤Zas ls:=by
     intro ls
     induction ls with
     | nil=>intro h;cases h
     | cons m ls ih =>
      intro h
      rcases List.mem_cons.1 h with h | h
      ·subst h;simp [Zas]
      ·have:=ih h;simp [Zas];omega
    have:=this ls (List.mem_of_getElem? h1)
    omega
   obtain ⟨b,u1,u2⟩:=hx.get' h1
   have i1:=SS.idx u2 hd
   have hat:Za2 false 1 (.ptr o k) H=some (.int .i64 (m:Int)):=ldn go k (by simp [h2])
   obtain ⟨x',H1,w1,w2,w3,w4,w5⟩:=RowN.app h7 (Nat.zero_le _) 16 (.vs 1 .clip [.str a]) [.str a] rfl (by simp;omega)
   have g3':=w5 _ _ g3
   have g4':=w5 _ _ g4
   have go':=w5 _ _ go
   have hat':Za2 false 1 (.ptr o k) H1=some (.int .i64 (m:Int)):=ldn go' k (by simp [h2])
   have hw1:IntKind.i64.wrap ((m:Int)+1)=((m+1:Nat):Int):=by rw [Zai (by omega) (by omega)];omega
   have hst:=stn go' k (v:=.int .i64 ((m+1:Nat):Int)) rfl rfl (by simp;omega)
   have hset:(ats.map fun k:Nat=>AV.int .i64 (k:Int)).set k (.int .i64 ((m+1:Nat):Int))=(ats.set k (m+1)).map fun k:Nat=>AV.int .i64 (k:Int):=by rw [List.map_set]
   rw [hset] at hst
   have go2:(H1.set o (.cells ((ats.set k (m+1)).map fun k:Nat=>AV.int .i64 (k:Int))))[o]?=some (.cells ((ats.set k (m+1)).map fun k:Nat=>AV.int .i64 (k:Int))):=Zdg _ go'
   have g32:=Ze0 (AObj.cells ((ats.set k (m+1)).map fun k:Nat=>AV.int .i64 (k:Int))) (Ne.symm h34.1) g3'
   have g42:=Ze0 (AObj.cells ((ats.set k (m+1)).map fun k:Nat=>AV.int .i64 (k:Int))) (Ne.symm h34.2) g4'
   have h7':RS (H1.set o (.cells ((ats.set k (m+1)).map fun k:Nat=>AV.int .i64 (k:Int)))) x' (acc++[a]):=by
    rcases w2 with ⟨e1,e2⟩ | ⟨u,v,e1,e2,e3⟩
    ·simp at e2
    ·refine .inr ⟨u,v,by rw [e1];simp,?_,e3⟩
     rw [List.getElem?_set_ne (fun e'=>by subst e';rw [go'] at e2;cases e2)]
     exact e2
   have htot:Zas (Zb5 ls (ats.set k (m+1)))=n:=by
    rw [ZyL hal h2,List.getD_eq_getElem?_getD,hkt]
    have:=Zxh _ k a t hkt
    show Zas ((Zb5 ls ats).set k t)=n
    omega
   obtain ⟨y,r1,r2⟩:=ih (ats.set k (m+1)) (acc++[a]) x' _ htot (by rw [List.length_set];exact hal) (by simp;omega) (fun s hs=>by
    rcases List.mem_append.1 hs with h | h
    ·exact hLa s h
    ·rw [List.mem_singleton.1 h];exact hL l (List.mem_of_getElem? h1) a (List.mem_of_getElem? hd)) h7' g32 g42 go2
   refine ⟨y,?_,?_⟩
   ·rw [ZeH]
    refine hlp.trans ?_
    have e2:decide ((k:Int) < 0)=false:=by rw [decide_eq_false_iff_not];omega
    rw [ZhB]
    simp only [Zp0,go_sem,e2,Zw5,u1,Zan,ZzG hkl,hat,i1,Zfy,w1,hat',hw1,hst]
    exact r1
   ·rw [Zje hg,← ZyL hal h2]
    simpa using r2
end
section
variable {a q:AV} {L:Loc} {p:Spec} (ha:LocAV a L) (hok:LocOk L) (hq:SpecAV q p) (hks:∀ k ∈ p.keys,KeOk k)
 {x:AV} {ls:List (List Str)} (hx:LsV x ls) (hL:Zhi ls) (ht:Zas ls≤1048576) (hl:ls.length≤1048576)
include hx ht hl
theorem ZAx (H0 : Hp) (h0 : H0 = []) : ∀ (r done : List (List Str)) (y : AV) (H : Hp), ls = done ++ r → RS H y done.flatten →
    ∃ y',ZhI x y (.int .i64 (done.length:Int)) H0 H=some (y',[])∧SS y' ls.flatten:=by
 subst h0
 intro r
 induction r with
 | nil =>
  intro done y H hd hy
  rw [List.append_nil] at hd
  subst hd
  have hlt:decide ((ls.length:Int) < (ls.length:Int))=false:=by simp
  obtain ⟨y',s1,s2⟩:=Zju (H0:=[]) (H:=H) (fun i hi=>by simp at hi) (Nat.zero_le _) hy.sl (fun c hc=>by obtain ⟨m,_,rfl⟩:=List.mem_map.1 hc;rfl)
  refine ⟨y',?_,s2⟩
  rw [ZmH]
  simp only [go_sem,hx.len 32,hlt,Zw8,s1]
 | cons l r ih =>
  intro done y H hd hy
  have hlen:ls.length=done.length+(r.length+1):=by rw [hd];simp
  have hlt:decide ((done.length:Int) < (ls.length:Int))=true:=by simp;omega
  have hw1:IntKind.i64.wrap ((done.length:Int)+1)=((done.length+1:Nat):Int):=by rw [Zai (by omega) (by omega)];omega
  have hiy:ls[done.length]?=some l:=by rw [hd,List.getElem?_append_right (Nat.le_refl _)];simp
  obtain ⟨a,g1,g3⟩:=hx.get' hiy
  have hb:Zas done+l.length≤1048576:=by rw [hd,ZjJ] at ht;simp [Zas] at ht;omega
  rw [← ZfC] at hb
  obtain ⟨y1,H1,q1,q2⟩:=hy.app g3 (by omega)
  obtain ⟨y',m1,m2⟩:=ih (done++[l]) y1 H1 (by rw [hd];simp) (by simpa using q2)
  rw [List.length_append,List.length_singleton] at m1
  refine ⟨y',?_,m2⟩
  rw [ZmH]
  simp only [go_sem,hx.len 32,hlt,Zw9,g1,Zan,q1,Zwa,hw1,m1]
include ha hok hq hks hL
theorem ZBL (H:Hp):∃ y,Za5 ZiZ [a,q,x] H=some (y,H)∧SS y (Zjy L p ls):=by
 obtain ⟨a1,h1,h2⟩:=ha.close [] 0 2
 obtain ⟨q1,g1,g2⟩:=hq.close [] 0 2
 obtain ⟨x1,k1,k2⟩:=hx.close [] 0 3
 have hav:=h2
 have hsp:=g2
 have hck:=fun H=>Zu6 g2 H
 obtain ⟨lx,c,e,rfl,hlx,hc,he⟩:=h2
 obtain ⟨xp,rfl,hxp⟩:=g2
 suffices hs:∃ y,ZiZ [.agg (L.cells lx c e),.agg (p.cells xp),x1] []=some (y,[])∧SS y (Zjy L p ls) by
  obtain ⟨y,r1,r2⟩:=hs
  obtain ⟨y',r3,r4⟩:=SS.closed r2 [] 0 4
  exact ⟨y',ZiE (args':=[.agg (L.cells lx c e),.agg (p.cells xp),x1]) (by simp [h1,g1,k1]) r1 r3,r4⟩
 have l2:Za2 true 5 (.ptr 1 0) [AObj.cells (L.cells lx c e),.cells (p.cells xp)]=some (.agg (p.cells xp)):=Zfp (i:=1) rfl
 have hck2:=hck [AObj.cells (L.cells lx c e),.cells (p.cells xp)]
 rw [ZxF]
 unfold ZtN Zjy
 simp only [Zb3,go_sem,List.nil_append,List.length_nil,List.length_singleton,List.singleton_append,List.cons_append,Nat.zero_add,l2,hck2]
 cases hcp:Zb4 p != 0 with
 | true =>
  obtain ⟨y,m1,m2⟩:=ZAx k2 ht hl [] rfl ls [] .nils [AObj.cells (L.cells lx c e),.cells (p.cells xp)] rfl (RowN.nil _ _ _)
  rw [List.length_nil,show ((0:Nat):Int)=0 from rfl] at m1
  exact ⟨y,by simp only [go_sem,m1],by rw [if_pos rfl];exact m2⟩
 | false =>
  rw [if_neg (by decide)]
  simp only [go_sem,Zw4,k2.len 32]
  by_cases h0:ls=[]
  ·subst h0
   obtain ⟨z,r1,r2⟩:=Zxc hav hok hsp hks (x:=.nils) (l:=[]) (.inl ⟨rfl,rfl⟩) (fun s hs=>by cases hs) (Nat.zero_le _) ([AObj.cells (L.cells lx c e),.cells (p.cells xp)]++[.tok 0])
   obtain ⟨y,s1,s2⟩:=Zju (H0:=[]) (H:=[AObj.cells (L.cells lx c e),.cells (p.cells xp)]++[.tok 0]) (fun i hi=>by simp at hi) (Nat.zero_le _) r2 (fun c hc=>by obtain ⟨m,_,rfl⟩:=List.mem_map.1 hc;rfl)
   have hmk:Zda 1 8 false (.int .i64 0) (.int .i64 (([]:List (List Str)).length:Int)) (.int .i64 (([]:List (List Str)).length:Int)) [AObj.cells (L.cells lx c e),.cells (p.cells xp)]=some (.vs 1 (.own 2 0) [],[AObj.cells (L.cells lx c e),.cells (p.cells xp)]++[.tok 0]):=rfl
   have k3:Zaf (.slice 32) x1=some (.int .i64 0):=k2.len 32
   have e2:decide ((-1:Int) < 0)=true:=rfl
   have e3:decide ((0:Int) < 0)=false:=rfl
   have g3:([AObj.cells (L.cells lx c e),.cells (p.cells xp)]++[.tok 0])[0]?=some (.cells (L.cells lx c e)):=rfl
   have g4:([AObj.cells (L.cells lx c e),.cells (p.cells xp)]++[.tok 0])[1]?=some (.cells (p.cells xp)):=rfl
   refine ⟨y,?_,?_⟩
   ·rw [hmk]
    simp only [go_sem,ZeH,ZhH,k3,e3,ZhB,e2,ZmV g3,Zfp g4,r1,s1]
   ·have:Zor L p []=if p.uniq then Zcp (ZaO L p) [] [] else []:=rfl
    rw [this];exact s2
  ·have hpos:0 < ls.length:=List.length_pos_iff.2 h0
   have hmk:Zda 1 8 false (.int .i64 0) (.int .i64 (ls.length:Int)) (.int .i64 (ls.length:Int)) [AObj.cells (L.cells lx c e),.cells (p.cells xp)]=some (.rs false 1 2 0 ls.length ls.length,[AObj.cells (L.cells lx c e),.cells (p.cells xp)]++[.cells ((List.replicate ls.length 0).map fun k:Nat=>AV.int .i64 (k:Int))]):=by
    unfold Zda
    dsimp only
    have hfit:fits ((ls.length:Int)).toNat 8=true:=by simp [fits];omega
    rw [if_pos ⟨by omega,by omega,rfl,rfl,by omega,hfit⟩,if_neg (by omega)]
    have:(List.replicate ((ls.length:Int)).toNat (AV.int .i64 0).cells).flatten=(List.replicate ls.length 0).map fun k:Nat=>AV.int .i64 (k:Int):=by
     rw [Int.toNat_natCast,List.map_replicate]
     show (List.replicate ls.length [AV.int .i64 0]).flatten=_
     rw [List.flatten_replicate_singleton]
     rfl
    rw [this,Int.toNat_natCast]
    rfl
   rw [hmk]
   obtain ⟨y,m1,m2⟩:=ZBM hav hok hsp hks k2 hL ht hl (i3:=0) (i4:=1) (o:=2) ⟨by decide,by decide⟩ (Zas ls) (List.replicate ls.length 0) [] .nils ([AObj.cells (L.cells lx c e),.cells (p.cells xp)]++[.cells ((List.replicate ls.length 0).map fun k:Nat=>AV.int .i64 (k:Int))]) (by rw [Zx8]) (by simp) (by simpa using ht) (fun s hs=>by cases hs) (RowN.nil _ _ _) rfl rfl rfl
   rw [Zx8,List.nil_append] at m2
   exact ⟨y,by simp only [go_sem,m1],m2⟩
end
end Go.Am
namespace Go.Am
set_option linter.unusedSimpArgs false
set_option linter.unusedVariables false
set_option linter.unusedSectionVars false
set_option maxRecDepth 100000

theorem ZwX (f:Str→Str→Int):∀ (n:Nat) (rest:List (List Str)),(Zcd f n rest).length≤n:=by
 intro n
 induction n with
 | zero=>intro rest;exact Nat.le_refl _
 | succ n ih =>
  intro rest
  cases hg:ZaS f rest 0 none with
  | none=>rw [ZnG hg];simp
  | some p =>
   obtain ⟨k,a⟩:=p
   rw [Zje hg]
   have:=ih (rest.set k ((rest.getD k []).drop 1))
   rw [List.length_cons];omega
theorem ZDw (L:Loc) (p:Spec) (ls:List (List Str)):(Zjy L p ls).length≤Zas ls:=by
 have h:=ZwX (ZaA L p) (Zas ls) ls
 have k:=ZFu (g:=ZaO L p) (Zcd (ZaA L p) (Zas ls) ls) []
 unfold Zjy Zor
 split
 ·rw [ZfC];exact Nat.le_refl _
 ·split
  ·simp at k;omega
  ·exact h
def ZmM:Option (Nat × Str)→Int
 | none=>-1
 | some (k,_)=>(k:Int)
theorem ZoY:ZmM none=-1:=rfl
theorem ZoZ (k:Nat) (a:Str):ZmM (some (k,a))=(k:Int):=rfl
theorem ZyR {α:Type}:∀ (ls:List (List α)) (k:Nat) (a:α) (t:List α),ls[k]?=some (a :: t)→Zas (ls.set k t)+1=Zas ls:=by
 intro ls
 induction ls with
 | nil=>intro k a t h;simp at h
 | cons x ls ih =>
  intro k a t h
  cases k with
  | zero=>simp at h;subst h;simp [Zas];omega
  | succ k=>simp at h;have:=ih k a t h;simp [Zas];omega
section
variable {K:AV→Prop} {f:Str→Str→Int} (hK:Fv K fun a b=>decide (0 < f a b)) {v:AV} (hv:K v)
include hK hv
theorem ZDs {x : AV} {ls : List (List Str)} {H : Hp} (hx : LL H x ls) (hL : Zhi ls) (hl : ls.length ≤ 1048576) (hin : ∀ l ∈ ls, l.length ≤ 1048576) (H0 : Hp) : ∀ (r done : List (List Str)) (b : Option (Nat × Str)), ls = done ++ r →
    (∀ k a,b=some (k,a)→∃ t,ls[k]?=some (a :: t)) →
    Ze9 x v (.int .i64 (ZmM b)) x (.int .i64 (ls.length:Int)) (.int .i64 (done.length:Int)) H0 H=some (.int .i64 (ZmM (ZaS f r done.length b)),H):=by
 intro r
 induction r with
 | nil =>
  intro done b hd hb
  rw [List.append_nil] at hd
  subst hd
  have hlt:decide ((ls.length:Int) < (ls.length:Int))=false:=by simp
  rw [Zit]
  simp only [go_sem,hlt,Zqz]
  rfl
 | cons y r ih =>
  intro done b hd hb
  have hlen:ls.length=done.length+(r.length+1):=by rw [hd];simp
  have hlt:decide ((done.length:Int) < (ls.length:Int))=true:=by simp;omega
  have hw1:IntKind.i64.wrap ((done.length:Int)+1)=((done.length+1:Nat):Int):=by rw [Zai (by omega) (by omega)];omega
  have hiy:ls[done.length]?=some y:=by rw [hd,List.getElem?_append_right (Nat.le_refl _)];simp
  have hmy:y ∈ ls:=List.mem_of_getElem? hiy
  obtain ⟨q,ay,g1,g2,g3⟩:=hx.get hiy
  have next:∀ b',(∀ k a,b'=some (k,a)→∃ t,ls[k]?=some (a :: t))→Ze7 x v (.int .i64 (ZmM b')) x (.int .i64 (ls.length:Int)) (.int .i64 (done.length:Int)) H0 H=some (.int .i64 (ZmM (ZaS f r (done.length+1) b')),H):=fun b' hb'=>by
   have:=ih (done++[y]) b' (by rw [hd];simp) hb'
   rw [List.length_append,List.length_singleton] at this
   rw [ZqB]
   simp only [go_sem,hw1,this]
  have hn:=SS.len g3 9
  rw [Zit]
  simp only [go_sem,hlt,ZqA,g1,g2,hn]
  cases y with
  | nil =>
   have h0:decide ((0:Int) < ((([]:List Str).length:Nat):Int))=false:=rfl
   simp only [h0,go_sem,Zpe]
   exact next b hb
  | cons a t =>
   have h1:decide ((0:Int) < (((a :: t).length:Nat):Int))=true:=by simp
   have ha:a.length≤1048576:=hL _ hmy a (by simp)
   have nn:=next (some (done.length,a)) fun k a' e=>by
    injection e with e
    injection e with e1 e2
    subst e1 e2
    exact ⟨t,hiy⟩
   rw [ZoZ] at nn
   have i0:Zad 1 ay (.int .i64 0)=some (.vp [.str a]):=SS.idx g3 (i:=0) rfl
   cases b with
   | none =>
    rw [ZnC,ZoY]
    have h2:decide ((-1:Int) < 0)=true:=rfl
    simp only [h1,h2,go_sem]
    exact nn
   | some p =>
    obtain ⟨k,c⟩:=p
    obtain ⟨t',hk⟩:=hb k c rfl
    obtain ⟨q',ac,f1,f2,f3⟩:=hx.get hk
    have hc:c.length≤1048576:=hL _ (List.mem_of_getElem? hk) c (by simp)
    have j0:Zad 1 ac (.int .i64 0)=some (.vp [.str c]):=SS.idx f3 (i:=0) rfl
    have hcall:=hK.run v hv c a hc ha H
    have h2:decide ((k:Int) < 0)=false:=by simp
    have no:=next (some (k,c)) hb
    rw [ZnD]
    rw [ZoZ] at no ⊢
    simp only [h1,h2,go_sem,f1,f2,j0,i0,Zan,hcall]
    by_cases hca:0 < f c a
    ·simp only [decide_eq_true hca,go_sem,if_pos hca]
     exact nn
    ·simp only [decide_eq_false hca,go_sem,if_neg hca]
     exact no
theorem Zyw {x : AV} {ls : List (List Str)} {H : Hp} (hx : LL H x ls) (hL : Zhi ls) (hl : ls.length ≤ 1048576) (hin : ∀ l ∈ ls, l.length ≤ 1048576) :
    ZeE [x,v] H=some (.int .i64 (ZmM (ZaS f ls 0 none)),H):=by
 have h:=ZDs hK hv hx hL hl hin H ls [] none rfl (fun k a e=>by cases e)
 rw [List.length_nil,show ((0:Nat):Int)=0 from rfl,ZoY] at h
 rw [Zr4]
 unfold Zmu
 simp only [go_sem,hx.len,h]
theorem ZBF {x3 x4 : AV} (B : Hp) {o : Nat} (ho : B.length ≤ o) : ∀ (n : Nat) (rest : List (List Str)) (acc : List Str) (x x9 : AV) (H : Hp), Zas rest = n → Rst o H x rest → RowN (o + 1) H 1 x9 (acc.map AV.str) → Keep B.length B H → B.length ≤ H.length → Zhi rest → rest.length ≤ 1048576 → acc.length + n ≤ 1048576 →
    ∃ y H',Ze6 x3 x4 v x x9 (.int .i64 (ZmM (ZaS f rest 0 none))) B H=Ze3 x3 x4 y B H'∧SS y (acc++Zcd f n rest)∧Keep B.length B H'∧B.length≤H'.length:=by
 intro n
 induction n with
 | zero =>
  intro rest acc x x9 H ht hx h9 hk hlB hL hl hac
  have hb:=ZlN f rest [] none (fun k a e=>(by cases e)) (fun _ l hl=>(by cases hl))
  rw [List.nil_append,List.length_nil] at hb
  have hnone:ZaS f rest 0 none=none:=by
   cases hg:ZaS f rest 0 none with
   | none=>rfl
   | some p =>
    obtain ⟨k,a⟩:=p
    obtain ⟨t,hk⟩:=hb.1 k a hg
    have:=ZyR rest k a t hk
    omega
  refine ⟨x9,H,?_,by simpa [Zcd] using h9.sl,hk,hlB⟩
  rw [Zio,hnone,ZoY]
  have h2:decide ((0:Int)≤-1)=false:=rfl
  simp only [go_sem,h2]
 | succ n ih =>
  intro rest acc x x9 H ht hx h9 hk hlB hL hl hac
  have hb:=ZlN f rest [] none (fun k a e=>(by cases e)) (fun _ l hl=>(by cases hl))
  rw [List.nil_append,List.length_nil] at hb
  cases hg:ZaS f rest 0 none with
  | none =>
   have h0:=hb.2 hg
   have:Zas rest=0:=by rw [← ZfC,List.flatten_eq_nil_iff.2 h0];rfl
   omega
  | some p =>
   obtain ⟨k,a⟩:=p
   obtain ⟨t,hkt⟩:=hb.1 k a hg
   have hkl:k < rest.length:=(List.getElem?_eq_some_iff.1 hkt).1
   have hts:=ZyR rest k a t hkt
   have hdrop:(rest.getD k []).drop 1=t:=by rw [List.getD_eq_getElem?_getD,hkt];rfl
   have hoH:o+1≤H.length:=by
    rcases hx with ⟨rfl,_⟩ | ⟨e,es,_,h1,_⟩
    ·simp at hkl
    ·have:=(List.getElem?_eq_some_iff.1 h1).1;omega
   obtain ⟨q,b,g1,g2,g3⟩:=Rst.ll hx |>.get hkt
   obtain ⟨y1,H1,q1,q2,q3,q4,_⟩:=h9.app hoH 16 (.vs 1 .clip [.str a]) [.str a] rfl (by simp;omega)
   have hx1:=hx.keep q4
   obtain ⟨q',b',e1,e2,e3⟩:=hx1.get hkt
   obtain ⟨b2,s1,s2⟩:=SS.lo e3 (n:=1) (by simp)
   rw [show ((1:Nat):Int)=1 from rfl] at s1
   simp only [List.drop_one,List.tail_cons] at s2
   obtain ⟨p',H2,w1,w2,w3,w4,w5⟩:=hx1.put hkl s2
   have hrow2:RowN (o+1) H2 1 y1 ((acc++[a]).map AV.str):=by
    rw [List.map_append]
    rcases q2 with ⟨r1,r2⟩ | ⟨t',e',r1,r2,r3⟩
    ·exact .inl ⟨r1,r2⟩
    ·exact .inr ⟨t',e',r1,(w5 t' (by omega)).trans r2,r3⟩
   have hkB:Keep B.length B H2:=fun i hi=>(w5 i (by omega)).trans ((q4 i (by omega)).trans (hk i hi))
   have hL2:Zhi (rest.set k t):=fun l hl s hs=>by
    rcases List.mem_or_eq_of_mem_set hl with h | h
    ·exact hL l h s hs
    ·subst h;exact hL _ (List.mem_of_getElem? hkt) s (by simp [hs])
   have hin2:∀ l ∈ rest.set k t,l.length≤1048576:=fun l hl=>by
    have h3:∀ (ls:List (List Str)),l ∈ ls→l.length≤Zas ls:=by
     intro ls
     induction ls with
     | nil=>intro h;cases h
     | cons z ls ih2 =>
      intro h
      rcases List.mem_cons.1 h with h | h
      ·subst h;simp [Zas]
      ·have:=ih2 h;simp [Zas];omega
    have:=h3 _ hl
    omega
   have hlr:=Zyw hK hv w3.ll hL2 (by rw [List.length_set];exact hl) hin2
   obtain ⟨y,H',m1,m2,m3,m4⟩:=ih (rest.set k t) (acc++[a]) x y1 H2 (by omega) w3 hrow2 hkB (by omega) hL2 (by rw [List.length_set];exact hl) (by simp;omega)
   have hq':q'=q:=Option.some.inj (e1.symm.trans g1)
   have hp':p'=q:=Option.some.inj (w1.symm.trans g1)
   subst hq' hp'
   refine ⟨y,H',?_,?_,m3,m4⟩
   ·have h2:decide ((0:Int)≤(k:Int))=true:=by simp
    have i0:Zad 1 b (.int .i64 0)=some (.vp [.str a]):=SS.idx g3 (i:=0) rfl
    rw [Zio,ZoZ]
    simp only [go_sem,h2,Zqx,g1,g2,i0,Zan,Zfy,q1,e2,s1,w2,Zqy,hlr]
    exact m1
   ·rw [Zje hg,hdrop]
    simpa using m2
end
theorem ZCU {x:AV} {ls:List (List Str)} {H:Hp} (h:LL H x ls) (hl:ls.length≤1048576):∃ y H',ZhJ false 1 24 (.vs 1 .clip []) x H=some (y,H')∧Rst H.length H' y ls∧Keep H.length H H'∧H.length≤H'.length:=by
 obtain ⟨es,he1,he2⟩:=h.elems
 have hfit:fits (([]:List AV).length+es.length) 24=true:=by
  have:=he2.len
  simp [fits]
  omega
 unfold ZhJ
 rw [he1]
 dsimp only
 unfold ZhK
 dsimp only
 rw [if_pos ⟨rfl,hfit⟩]
 by_cases h0:es=[]
 ·subst h0
  have:ls=[]:=List.length_eq_zero_iff.1 (by rw [← he2.len];rfl)
  subst this
  exact ⟨_,_,rfl,.inl ⟨rfl,.inr rfl⟩,Keep.refl _ _,Nat.le_refl _⟩
 ·rw [if_neg h0]
  refine ⟨_,_,rfl,.inr ⟨0,es,?_,?_,he2⟩,Keep.push H (Nat.le_refl _) _,by simp⟩
  ·rw [List.length_nil,Nat.zero_add,he2.len]
  ·rw [List.nil_append,he2.flat];simp
theorem ZCV {x:AV} {ls:List (List Str)} {H:Hp} (h:LL H x ls) (hl:ls.length≤1048576):∃ y H',ZbO [x] H=some (y,H')∧Rst H.length H' y ls∧Keep H.length H H'∧H.length≤H'.length:=by
 have one:(Zau 1 [] []).map (AV.vs 1 .clip)=some (.vs 1 .clip []):=rfl
 obtain ⟨y,H',p1,p2,p3,p4⟩:=ZCU h hl
 rw [ZfR]
 unfold Zd1
 by_cases hx:x=.nils
 ·subst hx
  have e:ebin (.slice 32) .eql .nils .nils=some (.bool true):=rfl
  have hls:ls=[]:=by
   rcases h with ⟨h,_⟩ | ⟨t,es,h,_⟩ | ⟨o,e,es,h,_⟩
   ·exact h
   ·cases h
   ·cases h
  exact ⟨.nils,H,by simp only [e,go_sem],.inl ⟨hls,.inl rfl⟩,Keep.refl _ _,Nat.le_refl _⟩
 ·have e : ebin (.slice 32) .eql x .nils = some (.bool false) := by
     rcases h with ⟨_,h | h⟩ | ⟨t,es,h,_⟩ | ⟨o,e,es,h,_⟩
     ·exact absurd h hx
     ·rw [h];rfl
     ·rw [h];rfl
     ·rw [h];rfl
  exact ⟨y,H',by simp only [e,go_sem,ZfB,one,p1],p2,p3,p4⟩
theorem ZG1 (ls:List (List Str)):∀ l ∈ ls,l.length≤Zas ls:=by
 induction ls with
 | nil=>intro l h;cases h
 | cons z ls ih =>
  intro l h
  rcases List.mem_cons.1 h with h | h
  ·subst h;simp [Zas]
  ·have:=ih l h;simp [Zas];omega
theorem ZDz (f:Str→Str→Int):∀ (n:Nat) (rest:List (List Str)),∀ s ∈ Zcd f n rest,s ∈ rest.flatten:=by
 intro n
 induction n with
 | zero=>intro rest s hs;cases hs
 | succ n ih =>
  intro rest s hs
  cases hg:ZaS f rest 0 none with
  | none=>rw [ZnG hg] at hs;cases hs
  | some p =>
   obtain ⟨k,a⟩:=p
   have hb:=ZlN f rest [] none (fun k a e=>(by cases e)) (fun _ l hl=>(by cases hl))
   rw [List.nil_append,List.length_nil] at hb
   obtain ⟨t,hkt⟩:=hb.1 k a hg
   rw [Zje hg] at hs
   have hdrop:(rest.getD k []).drop 1=t:=by rw [List.getD_eq_getElem?_getD,hkt];rfl
   rw [hdrop] at hs
   rcases List.mem_cons.1 hs with e | hs
   ·exact List.mem_flatten.2 ⟨_,List.mem_of_getElem? hkt,by simp [e]⟩
   ·obtain ⟨l,hl,hsl⟩:=List.mem_flatten.1 (ih _ s hs)
    rcases List.mem_or_eq_of_mem_set hl with h | h
    ·exact List.mem_flatten.2 ⟨l,h,hsl⟩
    ·subst h;exact List.mem_flatten.2 ⟨_,List.mem_of_getElem? hkt,by simp [hsl]⟩
theorem ZFl {a : AV} {L : Loc} (h : LocAV a L) (hok : LocOk L) {q : AV} {p : Spec} (hq : SpecAV q p) (hks : ∀ k ∈ p.keys, KeOk k) (hv0 : Zb4 p = 0) {x : AV} {ls : List (List Str)} {B : Hp} (hx : LL B x ls) (hL : Zhi ls) (ht : Zas ls ≤ 1048576) (hl : ls.length ≤ 1048576) :
    ∃ y,Zd8 [a,q,x] B=some (y,B)∧SS y (Zor L p ls):=by
 have hck:=fun H=>ZhQ hq H
 obtain ⟨lx,c,e,rfl,hlx,hc,he⟩:=h
 obtain ⟨xp,rfl,hxp⟩:=hq
 have g1:(B++[AObj.cells (L.cells lx c e),AObj.cells (p.cells xp)])[B.length]?=some (.cells (L.cells lx c e)):=by simp
 have g2:(B++[AObj.cells (L.cells lx c e),AObj.cells (p.cells xp)])[B.length+1]?=some (.cells (p.cells xp)):=by simp
 have hl5:Za2 true 5 (.ptr (B.length+1) 0) (B++[AObj.cells (L.cells lx c e),AObj.cells (p.cells xp)])=some (.agg (p.cells xp)):=by rw [ZeX g2];simp [Go.Am.apart,Spec.cells]
 generalize hH2:B++[AObj.cells (L.cells lx c e),AObj.cells (p.cells xp)]=H2 at g1 g2 hl5
 have hH2l:H2.length=B.length+2:=by rw [← hH2];simp
 have hkB2:Keep B.length B H2:=by rw [← hH2];exact Keep.push B (Nat.le_refl _) _
 have g3:(H2.set B.length .dead)[B.length+1]?=some (.cells (p.cells xp)):=by rw [List.getElem?_set_ne (by omega)];exact g2
 have hfz:∀ (k:AV→Hp→Res),frzK (.ptr B.length 0) H2 k=k (.vp (L.cells lx c e)) (H2.set B.length .dead):=fun k=>ZwL g1 k
 have hfz2:∀ (k:AV→Hp→Res),frzK (.ptr (B.length+1) 0) (H2.set B.length .dead) k=k (.vp (p.cells xp)) ((H2.set B.length .dead).set (B.length+1) .dead):=fun k=>ZwL g3 k
 generalize hH4:(H2.set B.length .dead).set (B.length+1) .dead=H4 at hfz2
 have hH4l:H4.length=B.length+2:=by rw [← hH4];simp [hH2l]
 have hkB4:Keep B.length B H4:=fun i hi=>by rw [← hH4,List.getElem?_set_ne (by omega),List.getElem?_set_ne (by omega)];exact hkB2 i hi
 have hK1:ClK 66 L p (.fn (.func 66) [] [.vp (L.cells lx c e),.vp (p.cells xp)]):=⟨_,_,rfl,⟨lx,c,e,rfl,hlx,hc,he⟩,⟨xp,rfl,hxp⟩⟩
 have hK2:ClK 71 L p (.fn (.func 71) [] [.vp (L.cells lx c e),.vp (p.cells xp)]):=⟨_,_,rfl,⟨lx,c,e,rfl,hlx,hc,he⟩,⟨xp,rfl,hxp⟩⟩
 obtain ⟨y1,H5,c1,c2,c3,c4⟩:=ZCV (hx.keep hkB4) hl
 rw [hH4l] at c2 c3 c4
 have hkB5:Keep B.length B H5:=fun i hi=>(c3 i (by omega)).trans (hkB4 i hi)
 have hlr:=Zyw (ZwW L hok p hks) hK1 c2.ll hL hl (fun l hl=>by have:=ZG1 ls l hl;omega)
 obtain ⟨y2,H6,m1,m2,m3,m4⟩:=ZBF (ZwW L hok p hks) hK1 (x3:=.vp (L.cells lx c e)) (x4:=.vp (p.cells xp)) B (o:=B.length+2) (by omega) (Zas ls) ls [] y1 .nils H5 rfl c2 (RowN.nil _ _ _) hkB5 (by omega) hL hl (by simpa using ht)
 rw [List.nil_append] at m2
 have hu1:Zaa 3 (.vp (p.cells xp))=some (.vp [.bool p.uniq,.bool p.stab]):=rfl
 have hckb:(Zb4 p != 0)=false:=by simp [hv0]
 have hML:Lens (Zcd (ZaA L p) (Zas ls) ls):=fun s hs=>by
  obtain ⟨l,h1,h2⟩:=List.mem_flatten.1 (ZDz _ _ _ s hs)
  exact hL l h1 s h2
 have hMl:=ZwX (ZaA L p) (Zas ls) ls
 have fin:∀ {y:AV} {l:List Str},SS y l→∃ y',Ze4 y B H6=some (y',B)∧SS y' l:=fun {y l} hy=>by
  obtain ⟨y',r1,r2⟩:=Zju m3 m4 hy (fun c hc=>by obtain ⟨m,_,rfl⟩:=List.mem_map.1 hc;rfl)
  exact ⟨y',by rw [Zqw,r1],r2⟩
 have hJ2:∃ y,Ze3 (.vp (L.cells lx c e)) (.vp (p.cells xp)) y2 B H6=some (y,B)∧SS y (Zor L p ls):=by
  unfold Zor
  rw [Zqv]
  simp only [go_sem,hu1,Zan]
  cases hu:p.uniq with
  | true =>
   obtain ⟨z,o1,o2⟩:=ZyD (ZDv L hok p hks) hK2 m2 hML (by omega) H6
   obtain ⟨y,r1,r2⟩:=fin o2
   exact ⟨y,by simp only [go_sem,o1,r1],by simpa using r2⟩
  | false =>
   obtain ⟨y,r1,r2⟩:=fin m2
   exact ⟨y,by simp only [go_sem,r1],by simpa using r2⟩
 obtain ⟨y,j1,j2⟩:=hJ2
 refine ⟨y,?_,j2⟩
 rw [Zjl]
 unfold Zhf
 simp only [go_sem,Zb3,List.length_append,List.length_singleton,List.append_assoc,List.singleton_append,hH2,hl5,hck,hckb,Zqu,hfz,hfz2,c1,hlr,m1,j1]

section
variable {x:AV} {ls:List (List Str)} (hx:LsV x ls) (ht:Zas ls≤1048576) (hl:ls.length≤1048576)
include hx ht hl
theorem ZBj (H0 H:Hp):∀ (r done:List (List Str)),ls=done++r→ZaZ x (.int .i64 (Zas done:Int)) x (.int .i64 (ls.length:Int)) (.int .i64 (done.length:Int)) H0 H=Zbx x (.int .i64 (Zas ls:Int)) H0 H:=by
 intro r
 induction r with
 | nil =>
  intro done hd
  rw [List.append_nil] at hd
  subst hd
  have hlt:decide ((ls.length:Int) < (ls.length:Int))=false:=by simp
  rw [Zcf]
  simp only [go_sem,hlt]
 | cons l r ih =>
  intro done hd
  have hlen:ls.length=done.length+(r.length+1):=by rw [hd];simp
  have hlt:decide ((done.length:Int) < (ls.length:Int))=true:=by rw [decide_eq_true_eq];omega
  have hw1:IntKind.i64.wrap ((done.length:Int)+1)=((done.length+1:Nat):Int):=by rw [Zai (by omega) (by omega)];omega
  have hiy:ls[done.length]?=some l:=by rw [hd,List.getElem?_append_right (Nat.le_refl _)];simp
  obtain ⟨a,g1,g3⟩:=hx.get' hiy
  have hb:Zas done+l.length≤1048576:=by rw [hd,ZjJ] at ht;simp [Zas] at ht;omega
  have hw2:IntKind.i64.wrap ((Zas done:Int)+(l.length:Int))=((Zas done+l.length:Nat):Int):=by rw [Zai (by omega) (by omega)];omega
  have hlt2:decide (((Zas done+l.length:Nat):Int) < 0)=false:=by rw [decide_eq_false_iff_not];omega
  have m:=ih (done++[l]) (by rw [hd];simp)
  have et:Zas (done++[l])=Zas done+l.length:=by rw [ZjJ];simp [Zas]
  rw [List.length_append,List.length_singleton,et] at m
  rw [Zcf]
  simp only [go_sem,hlt,Zfb,g1,Zan,g3.len 9,hw2,hlt2,Zfc,hw1]
  exact m
theorem ZBi (H0 : Hp) : ∀ (r done : List (List Str)) (y : AV) (H : Hp), ls = done ++ r → RS H y done.flatten →
    ∃ y' H',ZaY y x (.int .i64 (ls.length:Int)) (.int .i64 (done.length:Int)) H0 H=some (y',H')∧SS y' ls.flatten:=by
 intro r
 induction r with
 | nil =>
  intro done y H hd hy
  rw [List.append_nil] at hd
  subst hd
  have hlt:decide ((ls.length:Int) < (ls.length:Int))=false:=by simp
  refine ⟨y,H,?_,hy.sl⟩
  rw [Zce]
  simp only [go_sem,hlt,Zf8]
 | cons l r ih =>
  intro done y H hd hy
  have hlen:ls.length=done.length+(r.length+1):=by rw [hd];simp
  have hlt:decide ((done.length:Int) < (ls.length:Int))=true:=by simp;omega
  have hw1:IntKind.i64.wrap ((done.length:Int)+1)=((done.length+1:Nat):Int):=by rw [Zai (by omega) (by omega)];omega
  have hiy:ls[done.length]?=some l:=by rw [hd,List.getElem?_append_right (Nat.le_refl _)];simp
  obtain ⟨a,g1,g3⟩:=hx.get' hiy
  have hb:Zas done+l.length≤1048576:=by rw [hd,ZjJ] at ht;simp [Zas] at ht;omega
  rw [← ZfC] at hb
  obtain ⟨y1,H1,q1,q2⟩:=hy.app g3 (by omega)
  obtain ⟨y',H',m1,m2⟩:=ih (done++[l]) y1 H1 (by rw [hd];simp) (by simpa using q2)
  rw [List.length_append,List.length_singleton] at m1
  refine ⟨y',H',?_,m2⟩
  rw [Zce]
  simp only [go_sem,hlt,Zf9,g1,Zan,q1,Zfa,hw1,m1]
theorem ZCZ (H:Hp):∃ y H',ZbD [x] H=some (y,H')∧SS y ls.flatten:=by
 have hn:=hx.len 32
 have hs:=ZBj hx ht hl H H ls [] rfl
 obtain ⟨y0,H1,g1,g2⟩:∃ y0 H1,growE.run [.nils,.int .i64 (Zas ls:Int)] H=some (y0,H1)∧RS H1 y0 []:=by
  by_cases h0:Zas ls=0
  ·exact ⟨.nils,H,by rw [h0];rfl,.inl ⟨rfl,rfl⟩⟩
  ·refine ⟨.vs 1 (.own H.length 0) [],H++[.tok 0],?_,.inr ⟨H.length,0,rfl,by simp,Nat.zero_le _⟩⟩
   show (if (Zas ls:Int)=0 then some (AV.nils,H) else if 0 < (Zas ls:Int)∧(Zas ls:Int)≤1099511627776 then some (.vs 1 (.own H.length 0) [],H++[.tok 0]) else none)=_
   rw [if_neg (by omega),if_pos (by omega)]
 obtain ⟨y,H',m1,m2⟩:=ZBi hx ht hl H ls [] y0 H1 rfl g2
 rw [List.length_nil,show ((0:Nat):Int)=0 from rfl] at m1
 rw [List.length_nil,show ((0:Nat):Int)=0 from rfl,show Zas ([]:List (List Str))=0 from rfl,show ((0:Nat):Int)=0 from rfl] at hs
 refine ⟨y,H',?_,m2⟩
 rw [Zfh]
 unfold ZcO
 simp only [hn,go_sem]
 rw [hs,Zf7]
 simp only [g1,go_sem,hn,m1]
end
theorem ZBG {a q : AV} {L : Loc} {p : Spec} (ha : LocAV a L) (hok : LocOk L) (hq : SpecAV q p) (hks : ∀ k ∈ p.keys, KeOk k) {x : AV} {ls : List (List Str)} (hx : LsV x ls) (hL : Zhi ls) (ht : Zas ls ≤ 1048576) (hl : ls.length ≤ 1048576) (H : Hp) :
    ∃ y,Za5 Zd8 [a,q,x] H=some (y,H)∧SS y (Zjy L p ls):=by
 obtain ⟨a1,h1,h2⟩:=ha.close [] 0 2
 obtain ⟨q1,g1,g2⟩:=hq.close [] 0 2
 obtain ⟨x1,k1,k2⟩:=hx.close [] 0 3
 suffices hs:∃ y,Zd8 [a1,q1,x1] []=some (y,[])∧SS y (Zjy L p ls) by
  obtain ⟨y,r1,r2⟩:=hs
  obtain ⟨y',r3,r4⟩:=SS.closed r2 [] 0 4
  exact ⟨y',ZiE (args':=[a1,q1,x1]) (by simp [h1,g1,k1]) r1 r3,r4⟩
 unfold Zjy
 cases hcp:Zb4 p != 0 with
 | false =>
  obtain ⟨y,r1,r2⟩:=ZFl h2 hok g2 hks (by simpa using hcp) (k2.ll []) hL ht hl
  exact ⟨y,r1,by rw [if_neg (by decide)];exact r2⟩
 | true =>
  have hck:=fun H=>ZhQ g2 H
  obtain ⟨lx,c,e,rfl,hlx,hc,he⟩:=h2
  obtain ⟨xp,rfl,hxp⟩:=g2
  have l2:Za2 true 5 (.ptr 1 0) [AObj.cells (L.cells lx c e),.cells (p.cells xp)]=some (.agg (p.cells xp)):=Zfp (i:=1) rfl
  have hck2:=hck [AObj.cells (L.cells lx c e),.cells (p.cells xp)]
  obtain ⟨z,H1,r1,r2⟩:=ZCZ k2 ht hl [AObj.cells (L.cells lx c e),.cells (p.cells xp)]
  obtain ⟨y,s1,s2⟩:=Zju (H0:=[]) (H:=H1) (fun i hi=>by simp at hi) (Nat.zero_le _) r2 (fun c hc=>by obtain ⟨m,_,rfl⟩:=List.mem_map.1 hc;rfl)
  refine ⟨y,?_,by rw [if_pos rfl];exact s2⟩
  rw [Zjl]
  unfold Zhf
  simp only [Zb3,go_sem,List.nil_append,List.length_nil,List.length_singleton,List.singleton_append,List.cons_append,Nat.zero_add,l2,hck2,hcp,r1,s1]
end Go.Am
namespace Go.Am
set_option linter.unusedSimpArgs false
set_option linter.unusedVariables false
set_option linter.unusedSectionVars false
set_option maxRecDepth 100000

theorem ZCy {x : AV} {ls : List (List Str)} (hx : LsV x ls) (ht : Zas ls ≤ 1048576) (hl : ls.length ≤ 1048576) (H0 : Hp) : ∀ (r done : List (List Str)) (y : AV) (H : Hp), ls = done ++ r → RS H y done.flatten →
    ∃ y' H',ZkG x y (.int .i64 (done.length:Int)) H0 H=some (y',H')∧SS y' ls.flatten:=by
 intro r
 induction r with
 | nil =>
  intro done y H hd hy
  rw [List.append_nil] at hd
  subst hd
  have hlt:decide ((ls.length:Int) < (ls.length:Int))=false:=by simp
  refine ⟨y,H,?_,hy.sl⟩
  rw [ZpO]
  simp only [go_sem,hx.len 32,hlt,Zz0]
 | cons l r ih =>
  intro done y H hd hy
  have hlen:ls.length=done.length+(r.length+1):=by rw [hd];simp
  have hlt:decide ((done.length:Int) < (ls.length:Int))=true:=by simp;omega
  have hw1:IntKind.i64.wrap ((done.length:Int)+1)=((done.length+1:Nat):Int):=by rw [Zai (by omega) (by omega)];omega
  have hiy:ls[done.length]?=some l:=by rw [hd,List.getElem?_append_right (Nat.le_refl _)];simp
  obtain ⟨a,g1,g3⟩:=hx.get' hiy
  have hb:Zas done+l.length≤1048576:=by rw [hd,ZjJ] at ht;simp [Zas] at ht;omega
  rw [← ZfC] at hb
  obtain ⟨y1,H1,q1,q2⟩:=hy.app g3 (by omega)
  obtain ⟨y',H',m1,m2⟩:=ih (done++[l]) y1 H1 (by rw [hd];simp) (by simpa using q2)
  rw [List.length_append,List.length_singleton] at m1
  refine ⟨y',H',?_,m2⟩
  rw [ZpO]
  simp only [go_sem,hx.len 32,hlt,Zz1,g1,Zan,q1,Zz2,hw1,m1]
theorem ZCx {x:AV} {ls:List (List Str)} (hx:LsV x ls) (ht:Zas ls≤1048576) (hl:ls.length≤1048576) (H:Hp):∃ y,Za5 ZqX [x] H=some (y,H)∧SS y ls.flatten:=by
 obtain ⟨x',h1,h2⟩:=hx.close [] 0 3
 obtain ⟨y,H1,r1,r2⟩:=ZCy h2 ht hl [] ls [] .nils [] rfl (RowN.nil _ _ _)
 rw [List.length_nil,show ((0:Nat):Int)=0 from rfl] at r1
 obtain ⟨y',r3,r4⟩:=SS.closed r2 H1 0 4
 refine ⟨y',ZiE (args':=[x']) (by simp [h1]) (v:=y) (H1:=H1) ?_ r3,r4⟩
 rw [ZzJ]
 unfold Zyd
 exact r1
section
variable {a q:AV} {L:Loc} {p:Spec} (ha:LocAV a L) (hok:LocOk L) (hq:SpecAV q p) (hks:∀ k ∈ p.keys,KeOk k)
 {x:AV} {ls:List (List Str)} (hx:LsV x ls) (hL:Zhi ls) (ht:Zas ls≤1048576) (hl:ls.length≤1048576)
include ha hok hq hks hx hL ht hl
theorem ZCi:∃ H',Zi9 [a,q,x] []=some (.bool true,H'):=by
 have ha2:=ha
 have hq2:=hq
 obtain ⟨lx,c,e,rfl,hlx,hlc,hle⟩:=ha2
 obtain ⟨xp,rfl,hxp⟩:=hq2
 have hn:=hx.len 32
 have l1:Za2 true 6 (.ptr 0 0) [AObj.cells (L.cells lx c e),.cells (p.cells xp)]=some (.agg (L.cells lx c e)):=ZmV (i:=0) rfl
 have l2:Za2 true 5 (.ptr 1 0) [AObj.cells (L.cells lx c e),.cells (p.cells xp)]=some (.agg (p.cells xp)):=Zfp (i:=1) rfl
 have haw:=ZIc [AObj.cells (L.cells lx c e),.cells (p.cells xp)]
 obtain ⟨y,j1,j2⟩:=ZCx hx ht hl [AObj.cells (L.cells lx c e),.cells (p.cells xp)]
 have hfl:ls.flatten.length≤1048576:=by rw [ZfC];exact ht
 obtain ⟨b,f1⟩:=ZGQ ha hq j2 hfl [AObj.cells (L.cells lx c e),.cells (p.cells xp)]
 obtain ⟨z,r1,r2⟩:=ZBG ha hok hq hks hx hL ht hl [AObj.cells (L.cells lx c e),.cells (p.cells xp)]
 obtain ⟨w,s1,s2⟩:=ZBL ha hok hq hks hx hL ht hl [AObj.cells (L.cells lx c e),.cells (p.cells xp)]
 have hml:=ZDw L p ls
 have hsame:=Zsu r2 s2 (by omega) (by omega) [AObj.cells (L.cells lx c e),.cells (p.cells xp)]
 rw [decide_eq_true rfl] at hsame
 rw [Zng]
 unfold Zia
 simp only [Zb3,go_sem,List.nil_append,List.length_nil,List.length_singleton,List.singleton_append,List.cons_append,hn]
 refine ⟨[AObj.cells (L.cells lx c e),.cells (p.cells xp)],?_⟩
 by_cases h8:8 < ls.length
 ·have e8:decide ((8:Int) < (ls.length:Int))=true:=by rw [decide_eq_true_eq];omega
  simp only [e8,go_sem,haw]
 ·have e8:decide ((8:Int) < (ls.length:Int))=false:=by rw [decide_eq_false_iff_not];omega
  simp only [e8,go_sem,l1,l2,j1,f1]
  cases b with
  | false=>simp only [go_sem,Bool.not_false,haw]
  | true=>simp only [go_sem,Bool.not_true,Zmh,l1,l2,r1,s1,hsame,haw]
end
end Go.Am
