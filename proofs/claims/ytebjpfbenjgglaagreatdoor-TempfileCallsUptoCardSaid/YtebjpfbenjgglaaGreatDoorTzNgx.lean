/-
  The reference's store in the machine: appending, reading, syncing, failing, starting anew (ZD seat only).
-/
import Derived.Test.YtebjpfbenjgglaaGreatDoorTzKx
import Derived.Test.YtebjpfbenjgglaaGreatDoorTzNex
import Derived.Test.YtebjpfbenjgglaaGreatDoorTzLcx
namespace Go.Am
set_option linter.unusedSimpArgs false
set_option linter.unusedVariables false
set_option linter.unusedSectionVars false
set_option maxRecDepth 100000

theorem RfAt.file {H : Hp} {r : Nat} {x : AV} {s s' : Sto} (h : RfAt H r x s) {i : Nat} {f g : Fil} {o e : Nat} (hx : x = .ws true 3 o e (listF s.files).length) (ho : H[o]? = some (.row e (rowC (listF s.files)))) (hf : listF s'.files = (listF s.files).set i g) (hs : s'.limit = s.limit ∧ s'.peak = s.peak ∧ s'.crashed = s.crashed ∧ s'.count = s.count) :
    RfAt (H.set o (.row e (rowC ((listF s.files).set i g)))) r x s'∧Stp [o] H (H.set o (.row e (rowC ((listF s.files).set i g)))):=by
 have hro:r ≠ o:=fun e'=>h.nr (by rw [hx];simp [rowA,e'])
 refine ⟨⟨?_,?_,h.nr⟩,Stp.set _ _ (by simp)⟩
 ·rw [List.getElem?_set_ne (fun e'=>hro e'.symm),h.cells]
  simp only [rfC,hs.1,hs.2.1,hs.2.2.1,hs.2.2.2]
 ·rw [hf]
  exact .inr ⟨o,e,by rw [hx,List.length_set],get_set_eq _ ho⟩
theorem RfAt.row_res {H H1 H':Hp} {r o:Nat} {x:AV} {s':Sto} (h:RfAt H' r x s') (h1:Stp [r] H H1) (h2:Stp [o] H1 H') (ho:o ∈ rowA x):RefRes H H' r s' (r :: rowA x) (r :: rowA x) :=
 ⟨⟨x,h,rfl⟩,h1.trans h2 (fun a ha=>by rw [List.mem_singleton.1 ha];simp) fun a ha=>.inl (by rw [List.mem_singleton.1 ha];simp [ho]),fun a ha=>.inl ha⟩
theorem rSync_run {H : Hp} {r : Nat} {s : Sto} {A : List Nat} (h : RefAt H r s A) (hk : ROk s) (n : Txt) :
    ∃ H' A',C_R18_Store_Sync [.ptr r 0,.str n] H=some (.int .i64 (s.sync n).1,H')∧RefRes H H' r (s.sync n).2 A A':=by
 obtain ⟨x,h,rfl⟩:=h
 obtain ⟨v,e,H1,q1,q2,q3,q4⟩:=rbegin_run h hk n
 rw [F_R18_Store_Sync_eq]
 unfold F_R18_Store_Sync Sto.sync
 rcases q4 with ⟨c1,rfl⟩ | ⟨c1,c2,rfl⟩ | ⟨c1,rfl,i,f,rfl,c3,c4,c5,c6,c7⟩
 ·have e1:((19:Int) != 0)=true:=rfl
  rw [if_pos c1]
  exact ⟨H1,_,by simp only [q1,go_sem,List.getElem?_cons_zero,List.getElem?_cons_succ,e1],q2.res q3⟩
 ·have e1:((5:Int) != 0)=true:=rfl
  rw [if_neg (by simp [c1]),c2]
  exact ⟨H1,_,by simp only [q1,go_sem,List.getElem?_cons_zero,List.getElem?_cons_succ,e1],q2.res q3⟩
 ·have e1:((0:Int) != 0)=false:=rfl
  rw [if_neg (by simp [c1]),c4]
  have l1:=ldn q2.cells 1 (v:=x) rfl
  have hi:(listF s.tick.files)[i]?=some f:=by rw [tick_files];exact c5
  obtain ⟨o,e,hx,ho,ix,i0,i1,i2,ia⟩:=q2.files.idx hi
  have hal:alenD .string (.str f.text)=some (.int .i64 (f.text.length:Int)):=rfl
  have hst:=FsAt.put ho hi 2 (v:=.int .i64 (f.text.length:Int)) rfl 1 rfl (by omega) (g:={ f with syn:=f.text.length }) rfl
  have hlf:listF ({ s.tick with files:=updF s.files n fun f=>{ f with syn:=f.text.length } }:Sto).files=(listF s.tick.files).set i { f with syn:=f.text.length }:=by
   show listF (updF s.files n _)=_
   rw [listF_upd' hk.nd n (fun f=>{ f with syn:=f.text.length }) (fun _=>rfl),c7,tick_files]
  obtain ⟨k1,k2⟩:=q2.file (s':={ s.tick with files:=updF s.files n fun f=>{ f with syn:=f.text.length } }) hx ho hlf ⟨rfl,rfl,rfl,rfl⟩ (f:=f)
  refine ⟨_,_,?_,RfAt.row_res k1 q3 k2 (by rw [hx];simp [rowA])⟩
  simp only [q1,go_sem,List.getElem?_cons_zero,List.getElem?_cons_succ,e1,R18_Store_Sync_J1_eq,Nat.zero_add,l1,ix,i1,hal,hst]
theorem rused_loop {x : AV} {fs : List Fil} (hx : Sl 3 x (fs.map filAV)) (hl : fs.length ≤ 64) (hu : usedL fs ≤ 262144) (HB H : Hp) : ∀ (q d : List Fil), fs = d ++ q →
    R18_Store_Used_L1 (.int .i64 (usedL d:Int)) x (.int .i64 (d.length:Int)) HB H=some (.int .i64 (usedL fs:Int),H):=by
 have hxl:∀ t,alenD (.slice t) x=some (.int .i64 (fs.length:Int)):=fun t=>by have:=Sl.len hx t;rwa [List.length_map] at this
 intro q
 induction q with
 | nil =>
  intro d hd
  rw [List.append_nil] at hd
  subst hd
  have hlt:decide ((fs.length:Int) < (fs.length:Int))=false:=by simp
  rw [R18_Store_Used_L1_eq]
  simp only [go_sem,hxl,hlt,R18_Store_Used_J1_eq]
 | cons f q ih =>
  intro d hd
  have hlen:fs.length=d.length+(q.length+1):=by rw [hd];simp
  have hlt:decide ((d.length:Int) < (fs.length:Int))=true:=by simp;omega
  have hw1:IntKind.i64.wrap ((d.length:Int)+1)=((d.length+1:Nat):Int):=by rw [wrap64 (by omega) (by omega)];omega
  have hi:fs[d.length]?=some f:=by rw [hd,List.getElem?_append_right (Nat.le_refl _)];simp
  have hidx:aindexS 3 x (.int .i64 (d.length:Int))=some (.vp (filAV f).cells):=Sl.idx hx (c:=filAV f) (by simp [hi])
  have haf:afield 1 (.vp (filAV f).cells)=some (.vp [.int .i64 (f.text.length:Int),.int .i64 (f.syn:Int)]):=rfl
  have hld:aload false 1 (.vp [.int .i64 (f.text.length:Int),.int .i64 (f.syn:Int)]) H=some (.int .i64 (f.text.length:Int)):=rfl
  have hus:usedL fs=usedL d+(f.text.length+usedL q):=by rw [hd,usedL_app];rfl
  have hw2:IntKind.i64.wrap ((usedL d:Int)+(f.text.length:Int))=((usedL (d++[f]):Nat):Int):=by
   rw [wrap64 (by omega) (by omega),usedL_app]
   simp [usedL]
  have k:=ih (d++[f]) (by rw [hd];simp)
  rw [List.length_append,List.length_singleton] at k
  rw [R18_Store_Used_L1_eq]
  simp only [go_sem,hxl,hlt,R18_Store_Used_J2_eq,hidx,haf,hld,hw2,R18_Store_Used_J3_eq,hw1]
  exact k
theorem rUsed_ro {H:Hp} {r:Nat} {s:Sto} {A:List Nat} (h:RefAt H r s A) (hk:ROk s):roC C_R18_Store_Used [.ptr r 0] H=some (.int .i64 (usedL s.files:Int),H):=by
 obtain ⟨x,q1,q2⟩:=rList_ro h hk
 have hu:=listF_used hk.nd
 have hs:=hk.sto.used
 have hl:=hk.sto.limit
 refine roC_of (H1:=H) (v:=.int .i64 (usedL s.files:Int)) ?_ (Keep.refl _ _) (Nat.le_refl _) rfl
 rw [F_R18_Store_Used_eq]
 unfold F_R18_Store_Used
 have:=rused_loop q2 hk.len (by omega) H H (listF s.files) [] rfl
 rw [hu] at this
 simp only [q1,go_sem]
 exact this
theorem rAppend_run {H : Hp} {r : Nat} {s : Sto} {A : List Nat} (h : RefAt H r s A) (hk : ROk s) (n t : Txt) (ht : t.length ≤ 1048576) :
    ∃ H' A',C_R18_Store_Append [.ptr r 0,.str n,.str t] H=some (.int .i64 (s.append n t).1,H')∧RefRes H H' r (s.append n t).2 A A':=by
 obtain ⟨x,h,rfl⟩:=h
 obtain ⟨v,e,H1,q1,q2,q3,q4⟩:=rbegin_run h hk n
 rw [F_R18_Store_Append_eq]
 unfold F_R18_Store_Append Sto.append
 rcases q4 with ⟨c1,rfl⟩ | ⟨c1,c2,rfl⟩ | ⟨c1,rfl,i,f,rfl,c3,c4,c5,c6,c7⟩
 ·have e1:((19:Int) != 0)=true:=rfl
  rw [if_pos c1]
  exact ⟨H1,_,by simp only [q1,go_sem,List.getElem?_cons_zero,List.getElem?_cons_succ,e1],q2.res q3⟩
 ·have e1:((5:Int) != 0)=true:=rfl
  rw [if_neg (by simp [c1]),c2]
  exact ⟨H1,_,by simp only [q1,go_sem,List.getElem?_cons_zero,List.getElem?_cons_succ,e1],q2.res q3⟩
 ·have e1:((0:Int) != 0)=false:=rfl
  rw [if_neg (by simp [c1]),c4]
  dsimp only
  have hat1:RefAt H1 r s.tick (r :: rowA x):=⟨x,q2,rfl⟩
  have hu1:=rUsed_ro hat1 hk.tick
  rw [tick_files] at hu1
  have hus:=hk.sto.used
  have hlim:=hk.sto.limit
  have hpk:=hk.sto.peak
  have l0:=ldn q2.cells 0 (v:=.int .i64 (s.tick.limit:Int)) rfl
  rw [tick_limit] at l0
  have hw0:IntKind.i64.wrap ((s.limit:Int) - (usedL s.files:Int))=(s.limit:Int) - (usedL s.files:Int):=wrap64 (by omega) (by omega)
  have hat:alenD .string (.str t)=some (.int .i64 (t.length:Int)):=rfl
  by_cases hfull:s.limit < usedL s.files+t.length
  ·have d1:decide ((s.limit:Int) - (usedL s.files:Int) < (t.length:Int))=true:=by simp;omega
   rw [if_pos hfull]
   exact ⟨H1,_,by simp only [q1,go_sem,List.getElem?_cons_zero,List.getElem?_cons_succ,e1,R18_Store_Append_J1_eq,hat,Nat.zero_add,l0,hu1,hw0,d1],q2.res q3⟩
  ·have d1:decide ((s.limit:Int) - (usedL s.files:Int) < (t.length:Int))=false:=by simp;omega
   rw [if_neg hfull]
   have l1:=ldn q2.cells 1 (v:=x) rfl
   have hi:(listF s.tick.files)[i]?=some f:=by rw [tick_files];exact c5
   obtain ⟨o,e,hx,ho,ix,i0,i1,i2,ia⟩:=q2.files.idx hi
   have hfl:f.text.length≤usedL s.files:=by
    obtain ⟨a,b,e',_⟩:=getF_split c4
    rw [e',usedL_mid];omega
   have hadd:sbin .add (.str f.text) (.str t)=some (.str (f.text++t)):=sbin_add (by omega)
   have hst:=FsAt.put ho hi 1 (v:=.str (f.text++t)) rfl 1 rfl (by omega) (g:={ f with text:=f.text++t }) rfl
   have hlf:listF ({ s.tick with files:=updF s.files n fun f=>{ f with text:=f.text++t } }:Sto).files=(listF s.tick.files).set i { f with text:=f.text++t }:=by
    show listF (updF s.files n _)=_
    rw [listF_upd' hk.nd n (fun f=>{ f with text:=f.text++t }) (fun _=>rfl),c7,tick_files]
   obtain ⟨k1,k2⟩:=q2.file (s':={ s.tick with files:=updF s.files n fun f=>{ f with text:=f.text++t } }) hx ho hlf ⟨rfl,rfl,rfl,rfl⟩ (f:=f)
   generalize hH2:H1.set o (.row e (rowC ((listF s.tick.files).set i { f with text:=f.text++t })))=H2 at hst k1 k2
   have hok:=append_rok hk n t
   have hapf:(s.append n t).2={ s.tick with files:=updF s.files n fun f=>{ f with text:=f.text++t },peak:=max s.peak (usedL s.files+t.length) }:=by
    unfold Sto.append
    rw [if_neg (by simp [c1]),c4]
    dsimp only
    rw [if_neg hfull]
   rw [hapf] at hok
   have hun:usedL (updF s.files n fun f=>{ f with text:=f.text++t })=usedL s.files+t.length:=by
    obtain ⟨a,b,e',_,_,e4,_⟩:=getF_split c4
    rw [e4,e',usedL_mid,usedL_mid]
    simp
    omega
   have hok2:ROk { s.tick with files:=updF s.files n fun f=>{ f with text:=f.text++t } }:=⟨⟨hok.sto.limit,hok.sto.used,by show s.tick.peak≤s.tick.limit;rw [tick_peak,tick_limit];exact hpk,hok.sto.name,hok.sto.nd,hok.sto.syn,hok.sto.len,hok.sto.count⟩,hok.cnt⟩
   have hat2:RefAt H2 r { s.tick with files:=updF s.files n fun f=>{ f with text:=f.text++t } } (r :: rowA x):=⟨x,k1,rfl⟩
   have hu2:=rUsed_ro hat2 hok2
   have hu2':roC C_R18_Store_Used [.ptr r 0] H2=some (.int .i64 ((usedL s.files+t.length:Nat):Int),H2):=by rw [hu2];rw [show usedL ({ s.tick with files:=updF s.files n fun f=>{ f with text:=f.text++t } }:Sto).files=usedL s.files+t.length from hun]
   have p2:=ldn k1.cells 2 (v:=.int .i64 (s.tick.peak:Int)) rfl
   rw [tick_peak] at p2
   have hmx:max (s.peak:Int) ((usedL s.files+t.length:Nat):Int)=((max s.peak (usedL s.files+t.length):Nat):Int):=by omega
   have s2:=stn k1.cells 2 (v:=.int .i64 ((max s.peak (usedL s.files+t.length):Nat):Int)) rfl rfl (by simp [rfC])
   have g2:=get_set_eq (AObj.cells (List.set (rfC x { s.tick with files:=updF s.files n fun f=>{ f with text:=f.text++t } }) 2 (.int .i64 ((max s.peak (usedL s.files+t.length):Nat):Int)))) k1.cells
   have k3:=k1.cell (s':={ s.tick with files:=updF s.files n fun f=>{ f with text:=f.text++t },peak:=max s.peak (usedL s.files+t.length) }) (Stp.set H2 _ (List.mem_singleton.2 rfl)) g2 rfl
   refine ⟨_,r :: rowA x,?_,⟨⟨x,k3,rfl⟩,?_,fun a ha=>.inl ha⟩⟩
   ·simp only [q1,go_sem,List.getElem?_cons_zero,List.getElem?_cons_succ,e1,R18_Store_Append_J1_eq,hat,Nat.zero_add,l0,hu1,hw0,d1,R18_Store_Append_J2_eq,l1,ix,i1,hadd,hst,p2,hu2',hmx,s2]
   ·have hrx:o ∈ rowA x:=by rw [hx];simp [rowA]
    have w1:Stp (r :: rowA x) H H2:=q3.trans k2 (fun a ha=>by rw [List.mem_singleton.1 ha];simp) fun a ha=>.inl (by rw [List.mem_singleton.1 ha];simp [hrx])
    exact w1.trans (Stp.set (A:=[r]) H2 _ (by simp)) (fun _ h=>h) fun a ha=>.inl (by rw [List.mem_singleton.1 ha];simp)
theorem rRead_run {H : Hp} {r : Nat} {s : Sto} {A : List Nat} (h : RefAt H r s A) (hk : ROk s) (n : Txt) (i k : Int) (hi : -9223372036854775808 ≤ i ∧ i ≤ 9223372036854775807) (hkk : 0 ≤ k ∧ k ≤ 1048576) :
    ∃ H',C_R18_Store_Read [.ptr r 0,.str n,.int .i64 i,.int .i64 k] H=some (.tuple [.str (s.read n i k).1,.int .i64 (s.read n i k).2],H')∧RefRes H H' r s.tick A A:=by
 obtain ⟨x,h,rfl⟩:=h
 obtain ⟨v,e,H1,q1,q2,q3,q4⟩:=rbegin_run h hk n
 rw [F_R18_Store_Read_eq]
 unfold F_R18_Store_Read Sto.read
 rcases q4 with ⟨c1,rfl⟩ | ⟨c1,c2,rfl⟩ | ⟨c1,rfl,j,f,rfl,c3,c4,c5,c6,c7⟩
 ·have e1:((19:Int) != 0)=true:=rfl
  rw [if_pos c1]
  exact ⟨H1,by simp only [q1,go_sem,List.getElem?_cons_zero,List.getElem?_cons_succ,e1],q2.res q3⟩
 ·have e1:((5:Int) != 0)=true:=rfl
  rw [if_neg (by simp [c1]),c2]
  exact ⟨H1,by simp only [q1,go_sem,List.getElem?_cons_zero,List.getElem?_cons_succ,e1],q2.res q3⟩
 ·have e1:((0:Int) != 0)=false:=rfl
  rw [if_neg (by simp [c1]),c4]
  dsimp only
  have l1:=ldn q2.cells 1 (v:=x) rfl
  have hix:(listF s.tick.files)[j]?=some f:=by rw [tick_files];exact c5
  obtain ⟨o,e,hx,ho,ix,i0,i1,i2,ia⟩:=q2.files.idx hix
  have hfl:f.text.length≤usedL s.files:=by
   obtain ⟨a,b,e',_⟩:=getF_split c4
   rw [e',usedL_mid];omega
  have hus:=hk.sto.used
  have hlim:=hk.sto.limit
  have hal:alenD .string (.str f.text)=some (.int .i64 (f.text.length:Int)):=rfl
  have hk0:decide (k < 0)=false:=by simp;omega
  by_cases h0:i < 0
  ·rw [if_pos (.inl h0)]
   exact ⟨H1,by simp only [q1,go_sem,List.getElem?_cons_zero,List.getElem?_cons_succ,e1,R18_Store_Read_J1_eq,Nat.zero_add,l1,ix,i1,decide_eq_true h0],q2.res q3⟩
  ·by_cases h1:(f.text.length:Int) < i
   ·rw [if_pos (.inr (.inl h1))]
    exact ⟨H1,by simp only [q1,go_sem,List.getElem?_cons_zero,List.getElem?_cons_succ,e1,R18_Store_Read_J1_eq,Nat.zero_add,l1,ix,i1,decide_eq_false h0,hal,decide_eq_true h1],q2.res q3⟩
   ·rw [if_neg (by omega)]
    have hw1:IntKind.i64.wrap ((f.text.length:Int) - i)=(f.text.length:Int) - i:=wrap64 (by omega) (by omega)
    have hw2:IntKind.i64.wrap (i+min k ((f.text.length:Int) - i))=i+min k ((f.text.length:Int) - i):=wrap64 (by omega) (by omega)
    have hsl:asliceS (.str f.text) (some (.int .i64 i)) (some (.int .i64 (i+min k ((f.text.length:Int) - i)))) none=some (.str ((f.text.drop i.toNat).take k.toNat)):=by
     rw [asliceS_lh .i64 .i64 (by omega) (by omega) (by omega)]
     congr 2
     rw [List.drop_take,List.take_eq_take_iff,List.length_drop]
     omega
    exact ⟨H1,by simp only [q1,go_sem,List.getElem?_cons_zero,List.getElem?_cons_succ,e1,R18_Store_Read_J1_eq,Nat.zero_add,l1,ix,i1,decide_eq_false h0,hal,decide_eq_false h1,hk0,R18_Store_Read_J2_eq,hw1,hw2,hsl],q2.res q3⟩
theorem rFail_run {H : Hp} {r : Nat} {s : Sto} {A : List Nat} (h : RefAt H r s A) (n : Int) :
    ∃ H',C_R18_Store_FailAfter [.ptr r 0,.int .i64 n] H=some (.tuple [],H')∧RefRes H H' r (s.fail n) A A:=by
 obtain ⟨x,h,rfl⟩:=h
 have hnil:∀ u,ebin (.pointer u) .neq (.ptr r 0) .nilp=some (.bool true):=fun _=>rfl
 have l3:=ldn h.cells 3 (v:=.bool s.crashed) rfl
 rw [F_R18_Store_FailAfter_eq]
 unfold F_R18_Store_FailAfter Sto.fail
 by_cases hc:s.crashed=true
 ·rw [hc] at l3
  rw [if_pos hc]
  refine ⟨H,?_,h.res (Stp.refl _ _)⟩
  simp only [hnil,go_sem,Nat.zero_add,l3,Bool.not_true]
 ·rw [Bool.not_eq_true] at hc
  rw [hc] at l3
  rw [if_neg (by simp [hc])]
  have hn:(((max n 0).toNat:Nat):Int)=max 0 n:=by omega
  have s4:=stn h.cells 4 (v:=.int .i64 (max 0 n)) rfl rfl (by simp [rfC])
  have g:=get_set_eq (AObj.cells (List.set (rfC x s) 4 (.int .i64 (max 0 n)))) h.cells
  have hS:Stp [r] H (H.set r (.cells (List.set (rfC x s) 4 (.int .i64 (max 0 n))))):=Stp.set _ _ (by simp)
  refine ⟨_,?_,(h.cell (s':={ s with count:=(max n 0).toNat }) hS (by rw [g];simp only [rfC,hn];rfl) rfl).res hS⟩
  simp only [hnil,go_sem,Nat.zero_add,l3,Bool.not_false,s4]
end Go.Am
namespace Go.Am
set_option linter.unusedSimpArgs false
set_option linter.unusedVariables false
set_option linter.unusedSectionVars false
set_option maxRecDepth 100000

theorem more_run (k i : Nat) (hi : i ≤ 64) : ibin .rem (.int .i64 (i : Int)) (.int .i64 8) = some (.int .i64 ((i % 8 : Nat) : Int)) ∧ ibin .mul (.int .i64 8) (.int .i64 ((i % 8 : Nat) : Int)) = some (.int .i64 ((8 * (i % 8) : Nat) : Int)) ∧
    ibin .shr (.int .u64 (k:Int)) (.int .i64 ((8 * (i % 8):Nat):Int))=some (.int .u64 ((k / 2 ^ (8 * (i % 8)):Nat):Int))∧ibin .rem (.int .u64 ((k / 2 ^ (8 * (i % 8)):Nat):Int)) (.int .u64 256)=some (.int .u64 ((moreN k i:Nat):Int)) ∧
    cvInt .i64 (.int .u64 ((moreN k i:Nat):Int))=some (.int .i64 ((moreN k i:Nat):Int))∧moreN k i < 256:=by
 have hmr:moreN k i < 256:=Nat.mod_lt _ (by decide)
 refine ⟨rem8 i,?_,?_,?_,?_,hmr⟩
 ·have:IntKind.i64.wrap (8 * ((i % 8:Nat):Int))=((8 * (i % 8):Nat):Int):=by rw [wrap64 (by omega) (by omega)];omega
  simp only [go_sem,this]
 ·have hb:min (8 * (i % 8)) IntKind.u64.bits=8 * (i % 8):=Nat.min_eq_left (by show 8 * (i % 8)≤64;omega)
  rw [ibin_shr]
  unfold shrK
  rw [hb,Int.fdiv_eq_ediv_of_nonneg _ (Int.pow_nonneg (by decide))]
  have:(2:Int) ^ (8 * (i % 8))=((2 ^ (8 * (i % 8)):Nat):Int):=by simp
  rw [this,← Int.natCast_ediv]
 ·unfold ibin ashift
  simp only [if_true,intbin]
  rw [if_neg (by omega)]
  congr 2
 ·unfold cvInt
  dsimp only
  rw [wrap64 (by omega) (by omega)]
theorem rrestart_loop {r : Nat} {x : AV} {lim pk : Nat} {o : Nat} (k : Nat) (H0 : Hp) : ∀ (q d : List Fil) (H : Hp) (e : Nat), d.length + q.length ≤ 64 → (∀ f ∈ q, f.syn ≤ f.text.length ∧ f.text.length ≤ 262144) → r ≠ o → x = .ws true 3 o e (d.length + q.length) →
    (∃ cr ct:AV,H[r]?=some (.cells [.int .i64 (lim:Int),x,.int .i64 (pk:Int),cr,ct]))→H[o]?=some (.row e (rowC (d++q))) →
    ∃ H',R18_Store_Restart_L1 (.ptr r 0) (.int .u64 (k:Int)) (.int .i64 (d.length:Int)) H0 H=some (.tuple [],H')∧H'[o]?=some (.row e (rowC (d++cutAll k d.length q)))∧Stp [o] H H':=by
 intro q
 induction q with
 | nil =>
  intro d H e hl hq hro hx ⟨cr,ct,hr⟩ ho
  have l1:=ldn hr 1 (v:=x) rfl
  have hal:∀ t,alenD (.slice t) x=some (.int .i64 (d.length:Int)):=fun t=>by rw [hx];rfl
  have hlt:decide ((d.length:Int) < (d.length:Int))=false:=by simp
  refine ⟨H,?_,ho,Stp.refl _ _⟩
  rw [R18_Store_Restart_L1_eq]
  simp only [go_sem,Nat.zero_add,l1,hal,hlt]
 | cons f q ih =>
  intro d H e hl hq hro hx ⟨cr,ct,hr⟩ ho
  simp only [List.length_cons] at hl hx
  obtain ⟨hs1,hs2⟩:=hq f (by simp)
  have l1:=ldn hr 1 (v:=x) rfl
  have hal:∀ t,alenD (.slice t) x=some (.int .i64 ((d.length+(q.length+1):Nat):Int)):=fun t=>by rw [hx];rfl
  have hlt:decide ((d.length:Int) < ((d.length+(q.length+1):Nat):Int))=true:=by simp;omega
  have hw1:IntKind.i64.wrap ((d.length:Int)+1)=((d.length+1:Nat):Int):=by rw [wrap64 (by omega) (by omega)];omega
  have hLl:(d++f :: q).length=d.length+(q.length+1):=by simp
  have hi:(d++f :: q)[d.length]?=some f:=by rw [List.getElem?_append_right (Nat.le_refl _)];simp
  have hfs:FsAt H x (d++f :: q):=.inr ⟨o,e,by rw [hLl];exact hx,ho⟩
  obtain ⟨o',e',hx',ho',ix,i0,i1,i2,ia⟩:=hfs.idx hi
  rw [hx] at hx'
  injection hx' with _ _ h1 h2 _
  subst h1
  subst h2
  obtain ⟨m1,m2,m3,m4,m5,m6⟩:=more_run k d.length (by omega)
  -- the file is held in a cell of its own
  have hg0:(H++[AObj.cells [(.str []),(.str []),(.int .i64 0)]])[H.length]?=some (.cells [(.str []),(.str []),(.int .i64 0)]):=by simp
  have s0:astoreU 3 (.ptr H.length 0) (.agg (filC f)) (H++[AObj.cells [(.str []),(.str []),(.int .i64 0)]])=some (.tuple [],H++[AObj.cells (filC f)]):=by
   rw [astore_of (v:=.agg (filC f)) (sz:=3) hg0 rfl rfl (by simp)]
   simp [splice,filC,AV.cells]
  have g1:(H++[AObj.cells (filC f)])[H.length]?=some (.cells (filC f)):=by simp
  have n1:=ldn g1 1 (v:=.str f.text) rfl
  have n2:=ldn g1 2 (v:=.int .i64 (f.syn:Int)) rfl
  have hat:∀ t:Txt,alenD .string (.str t)=some (.int .i64 (t.length:Int)):=fun _=>rfl
  have hw2:IntKind.i64.wrap ((f.syn:Int)+((moreN k d.length:Nat):Int))=((f.syn+moreN k d.length:Nat):Int):=by rw [wrap64 (by omega) (by omega)];omega
  generalize hz:f.syn+min (moreN k d.length) (f.text.length - f.syn)=z
  have hcut:cutF k d.length f=⟨f.name,f.text.take z,z⟩:=by unfold cutF;rw [hz]
  have hzl:z≤f.text.length:=by omega
  have hmn:min (f.text.length:Int) ((f.syn+moreN k d.length:Nat):Int)=(z:Int):=by omega
  have hsl:asliceS (.str f.text) none (some (.int .i64 (z:Int))) none=some (.str (f.text.take z)):=by
   rw [asliceS_hi .i64 (by omega) (by omega),Int.toNat_natCast]
  have s1:=stn g1 1 (v:=.str (f.text.take z)) rfl rfl (by simp [filC])
  have hset1:(H++[AObj.cells (filC f)]).set H.length (.cells (List.set (filC f) 1 (.str (f.text.take z))))=H++[AObj.cells [.str f.name,.str (f.text.take z),.int .i64 (f.syn:Int)]]:=by simp [filC]
  rw [hset1] at s1
  have g2:(H++[AObj.cells [.str f.name,.str (f.text.take z),.int .i64 (f.syn:Int)]])[H.length]?=some (.cells [.str f.name,.str (f.text.take z),.int .i64 (f.syn:Int)]):=by simp
  have n3:=ldn g2 1 (v:=.str (f.text.take z)) rfl
  have htl:((f.text.take z).length:Int)=(z:Int):=by rw [List.length_take];omega
  have s2:=stn g2 2 (v:=.int .i64 (z:Int)) rfl rfl (by simp)
  have hset2:(H++[AObj.cells [.str f.name,.str (f.text.take z),.int .i64 (f.syn:Int)]]).set H.length (.cells (List.set [.str f.name,.str (f.text.take z),.int .i64 (f.syn:Int)] 2 (.int .i64 (z:Int))))=H++[AObj.cells (filC (cutF k d.length f))]:=by rw [hcut];simp [filC]
  rw [hset2] at s2
  have g3:(H++[AObj.cells (filC (cutF k d.length f))])[H.length]?=some (.cells (filC (cutF k d.length f))):=by simp
  have n4:aload true 3 (.ptr H.length 0) (H++[AObj.cells (filC (cutF k d.length f))])=some (.agg (filC (cutF k d.length f))):=by rw [aload_of g3];rfl
  have hr3:=get_push hr [AObj.cells (filC (cutF k d.length f))]
  have ho3:=get_push ho [AObj.cells (filC (cutF k d.length f))]
  have l3:=ldn hr3 1 (v:=x) rfl
  have s3:=FsAt.put ho3 hi 0 (v:=.agg (filC (cutF k d.length f))) rfl 3 rfl (by omega) (g:=cutF k d.length f) rfl
  rw [Nat.add_zero,set_mid] at s3
  obtain ⟨H',k1,k2,k3⟩:=ih (d++[cutF k d.length f]) ((H++[AObj.cells (filC (cutF k d.length f))]).set o (.row e (rowC (d++cutF k d.length f :: q)))) e (by simp;omega) (fun g hg=>hq g (by simp [hg])) hro (by rw [hx];simp;omega) ⟨cr,ct,get_set_ne _ (fun e=>hro e.symm) hr3⟩ (by rw [get_set_eq _ ho3];simp)
  rw [List.length_append,List.length_singleton] at k1 k2
  refine ⟨H',?_,by rw [k2,cutAll,List.append_assoc];rfl,?_⟩
  ·rw [R18_Store_Restart_L1_eq]
   simp only [go_sem,Nat.zero_add,l1,hal,hlt,R18_Store_Restart_J2_eq,m1,m2,m3,m4,m5,ix,ia,s0,n1,n2,hat,hw2,hmn,hsl,s1,n3,htl,s2,l3,n4,s3,R18_Store_Restart_J3_eq,hw1]
   exact k1
  ·have w1:Stp [o] H (H++[AObj.cells (filC (cutF k d.length f))]):=Stp.push _ _
   have w2:=w1.trans (Stp.set (A:=[o]) (o:=o) (H++[AObj.cells (filC (cutF k d.length f))]) (.row e (rowC (d++cutF k d.length f :: q))) (by simp)) (fun _ h=>h) fun a ha=>.inl ha
   exact w2.trans k3 (fun _ h=>h) fun a ha=>.inl ha
theorem rRestart_run {H : Hp} {r : Nat} {s : Sto} {A : List Nat} (h : RefAt H r s A) (hk : ROk s) (k : Nat) :
    ∃ H',C_R18_Store_Restart [.ptr r 0,.int .u64 (k:Int)] H=some (.tuple [],H')∧RefRes H H' r (s.restart k) A A:=by
 obtain ⟨x,h,rfl⟩:=h
 have hnil:∀ u,ebin (.pointer u) .eql (.ptr r 0) .nilp=some (.bool false):=fun _=>rfl
 have s3:=stn h.cells 3 (v:=.bool false) rfl rfl (by simp [rfC])
 have g3:=get_set_eq (AObj.cells (List.set (rfC x s) 3 (.bool false))) h.cells
 have s4:=stn g3 4 (v:=.int .i64 0) rfl rfl (by simp [rfC])
 have g4:=get_set_eq (AObj.cells (List.set (List.set (rfC x s) 3 (.bool false)) 4 (.int .i64 0))) g3
 generalize hH1:H.set r (.cells (List.set (rfC x s) 3 (.bool false)))=H1 at s3 g3 s4 g4
 generalize hH2:H1.set r (.cells (List.set (List.set (rfC x s) 3 (.bool false)) 4 (.int .i64 0)))=H2 at s4 g4
 have hS:Stp [r] H H2:=by
  rw [← hH2,← hH1]
  exact (Stp.set _ _ (by simp)).trans (Stp.set _ _ (by simp)) (fun _ h=>h) fun _ h=>.inl h
 have h2:=h.cell (s':={ s with crashed:=false,count:=0 }) hS g4 rfl
 have hlr:=listF_restart (s:=s) hk.nd k
 have hus:=hk.sto.used
 have hlim:=hk.sto.limit
 have hsy:∀ f ∈ listF s.files,f.syn≤f.text.length∧f.text.length≤262144:=fun f hf=>by
  have hm:=listF_mem hf
  obtain ⟨a,b,e⟩:=List.append_of_mem hm
  refine ⟨hk.sto.syn f hm,?_⟩
  rw [e,usedL_mid] at hus
  omega
 have hrun:C_R18_Store_Restart [.ptr r 0,.int .u64 (k:Int)] H=R18_Store_Restart_L1 (.ptr r 0) (.int .u64 (k:Int)) (.int .i64 0) H H2:=by
  rw [F_R18_Store_Restart_eq]
  unfold F_R18_Store_Restart
  simp only [hnil,go_sem,R18_Store_Restart_J1_eq,Nat.zero_add,s3,s4]
 rcases h2.files with ⟨rfl,hn⟩ | ⟨o,e,hx,ho⟩
 ·have hn:listF s.files=[]:=hn
  have l1:=ldn h2.cells 1 (v:=.nils) rfl
  have hal:∀ t,alenD (.slice t) .nils=some (.int .i64 0):=fun _=>rfl
  have hlt:decide ((0:Int) < 0)=false:=rfl
  refine ⟨H2,?_,RfAt.res ⟨g4,.inl ⟨rfl,by rw [hlr,hn];rfl⟩,h.nr⟩ hS⟩
  rw [hrun,R18_Store_Restart_L1_eq]
  simp only [go_sem,Nat.zero_add,l1,hal,hlt]
 ·have hro:r ≠ o:=fun e'=>h.nr (by rw [hx];simp [rowA,e'])
  have hx0:x=.ws true 3 o e (([]:List Fil).length+(listF s.files).length):=by rw [hx];simp
  obtain ⟨H',k1,k2,k3⟩:=rrestart_loop (r:=r) (x:=x) (lim:=s.limit) (pk:=s.peak) (o:=o) k H (listF s.files) [] H2 e (by have:=hk.len;simpa using this) hsy hro hx0 ⟨_,_,g4⟩ ho
  simp only [List.length_nil,List.nil_append] at k1 k2
  have hcl:(cutAll k 0 (listF s.files)).length=(listF s.files).length:=by
   have:∀ (l:List Fil) i,(cutAll k i l).length=l.length:=fun l=>by
    induction l with
    | nil=>intro i;rfl
    | cons f l ih=>intro i;simp [cutAll,ih]
   exact this _ _
  have h5:RfAt H' r x (s.restart k):=⟨k3.get g4 (by simpa using hro),.inr ⟨o,e,by rw [hlr,hcl];exact hx,by rw [hlr];exact k2⟩,h.nr⟩
  exact ⟨H',by rw [hrun];exact k1,RfAt.row_res h5 hS k3 (by rw [hx];simp [rowA])⟩
end Go.Am
namespace Go.Am
set_option linter.unusedSimpArgs false
set_option linter.unusedVariables false
set_option linter.unusedSectionVars false
set_option maxRecDepth 100000

theorem remN (m n:Nat) (hn:0 < n):ibin .rem (.int .i64 (m:Int)) (.int .i64 (n:Int))=some (.int .i64 ((m % n:Nat):Int)):=by
 unfold ibin ashift
 simp only [if_true,intbin]
 rw [if_neg (by omega),Int.ofNat_tmod]
theorem quoN (m n:Nat) (hn:0 < n) (hm:m≤9223372036854775807):ibin .quo (.int .i64 (m:Int)) (.int .i64 (n:Int))=some (.int .i64 ((m / n:Nat):Int)):=by
 unfold ibin ashift
 simp only [if_true,intbin]
 have:=Nat.div_le_self m n
 have h2:((m:Int).tdiv (n:Int))=((m / n:Nat):Int):=(Int.ofNat_tdiv m n).symm
 generalize m / n=z at this h2
 rw [if_neg (by omega),h2,wrap64 (by omega) (by omega)]
def digS (m:Nat):Txt:=if m=0 then [] else Go.Lib.itoa (m:Int)
theorem digS_step {m:Nat} (h:m ≠ 0):digS m=digS (m / 10)++[UInt8.ofNat (48+m % 10)]:=by
 unfold digS
 rw [if_neg h]
 have e:∀ k:Nat,Go.Lib.itoa (k:Int)=Go.Lib.decDigits k:=fun k=>by
  unfold Go.Lib.itoa
  rw [if_neg (by omega),Int.toNat_natCast]
 rw [e,e]
 by_cases h10:m < 10
 ·rw [if_pos (by omega),Go.Lib.decDigits,dif_pos h10,Nat.mod_eq_of_lt h10]
  rfl
 ·rw [if_neg (by omega)]
  conv=>lhs;rw [Go.Lib.decDigits,dif_neg h10]
theorem rformat_loop (x0 : AV) (H0 H : Hp) : ∀ (k m : Nat) (s : Txt), m ≤ k → m ≤ 1000001 → s.length + k ≤ 1048576 →
    R01_Format_L1 x0 (.str s) (.int .i64 (m:Int)) H0 H=R01_Format_J2 x0 (.str (digS m++s)) H0 H:=by
 intro k
 induction k with
 | zero =>
  intro m s hm _ _
  obtain rfl:m=0:=by omega
  have hz:((0:Nat):Int)=0:=rfl
  have e0:((0:Int) != 0)=false:=rfl
  rw [R01_Format_L1_eq]
  simp only [hz,go_sem,e0,digS,if_true,List.nil_append]
 | succ k ih =>
  intro m s hm hl hs
  by_cases h:m=0
  ·subst h
   have hz:((0:Nat):Int)=0:=rfl
   have e0:((0:Int) != 0)=false:=rfl
   rw [R01_Format_L1_eq]
   simp only [hz,go_sem,e0,digS,if_true,List.nil_append]
  ·have e0:((m:Int) != 0)=true:=by simp;omega
   have r1:=remN m 10 (by omega)
   have q1:=quoN m 10 (by omega) (by omega)
   rw [show ((10:Nat):Int)=10 from rfl] at r1 q1
   have d0:decide (((m % 10:Nat):Int) < 0)=false:=by simp;omega
   have w1:IntKind.i64.wrap (48+((m % 10:Nat):Int))=((48+m % 10:Nat):Int):=by rw [wrap64 (by omega) (by omega)];omega
   have cv:cvInt .u8 (.int .i64 ((48+m % 10:Nat):Int))=some (.int .u8 ((48+m % 10:Nat):Int)):=by
    have e1:(2 ^ IntKind.u8.bits:Int)=256:=by decide
    have e2:IntKind.u8.signed=false:=rfl
    unfold cvInt IntKind.wrap
    simp only [e1,e2,Bool.false_and,Bool.false_eq_true,if_false]
    congr 2
    omega
   have hse:(setElems 1 [(0,.int .u8 ((48+m % 10:Nat):Int))] [(.int .u8 0)]).map (AV.vs 1 .clip)=some (.vs 1 .clip [.int .u8 ((48+m % 10:Nat):Int)]):=rfl
   have hrd:cvRd (.vs 1 .clip [.int .u8 ((48+m % 10:Nat):Int)]) H=some (.str [UInt8.ofNat (48+m % 10)]):=rfl
   have hadd:sbin .add (.str [UInt8.ofNat (48+m % 10)]) (.str s)=some (.str ([UInt8.ofNat (48+m % 10)]++s)):=sbin_add (by simp;omega)
   have hi:=ih (m / 10) ([UInt8.ofNat (48+m % 10)]++s) (by omega) (by omega) (by simp;omega)
   rw [← List.append_assoc,← digS_step h] at hi
   rw [R01_Format_L1_eq]
   simp only [go_sem,e0,R01_Format_J4_eq,r1,d0,R01_Format_J6_eq,w1,cv,hse,hrd,hadd,R01_Format_J5_eq,q1]
   exact hi
theorem rformat_flat (n:Nat) (h0:n ≠ 0) (hn:n≤1000001) (H:Hp):flatC C_R01_Format [.int .i64 (n:Int)] H=some (.str (Go.Lib.itoa (n:Int)),H):=by
 refine flat1 (a':=.int .i64 (n:Int)) rfl (H1:=[]) ?_ rfl
 have e0:((n:Int) == 0)=false:=by simp;omega
 have d0:decide ((n:Int) < 0)=false:=by simp
 have hl:=rformat_loop (.int .i64 (n:Int)) [] [] n n [] (Nat.le_refl _) hn (by simp;omega)
 rw [List.append_nil] at hl
 have hd:digS n=Go.Lib.itoa (n:Int):=by unfold digS;rw [if_neg h0]
 rw [F_R01_Format_eq]
 unfold F_R01_Format
 simp only [go_sem,e0,R01_Format_J1_eq,hl,R01_Format_J2_eq,d0,R01_Format_J3_eq,hd]
theorem rhas_flat {x:AV} {l:List Txt} (hx:SS x l) (hl:l.length≤1048576) (n:Txt) (H:Hp):flatC C_R19_has [x,.str n] H=some (.bool (decide (n ∈ l)),H):=by
 obtain ⟨x1,k1,k2⟩:=SS.closed hx [] 0 4
 refine flat2 k1 (b':=.str n) rfl (H1:=[]) ?_ rfl
 have hxl:∀ t,alenD (.slice t) x1=some (.int .i64 (l.length:Int)):=fun t=>k2.len t
 have loop:∀ (q d:List Txt),l=d++q→R19_has_L1 x1 (.str n) (.int .i64 (d.length:Int)) [] []=some (.bool (decide (n ∈ q)),[]):=by
  intro q
  induction q with
  | nil =>
   intro d hd
   rw [List.append_nil] at hd
   subst hd
   have hlt:decide ((l.length:Int) < (l.length:Int))=false:=by simp
   rw [R19_has_L1_eq]
   simp only [go_sem,hxl,hlt,R19_has_J1_eq]
   simp
  | cons s q ih =>
   intro d hd
   have hlen:l.length=d.length+(q.length+1):=by rw [hd];simp
   have hlt:decide ((d.length:Int) < (l.length:Int))=true:=by simp;omega
   have hw1:IntKind.i64.wrap ((d.length:Int)+1)=((d.length+1:Nat):Int):=by rw [wrap64 (by omega) (by omega)];omega
   have his:l[d.length]?=some s:=by rw [hd,List.getElem?_append_right (Nat.le_refl _)];simp
   have hidx:=SS.idx k2 his
   have hse:sbin .eql (.str s) (.str n)=some (.bool (s == n)):=rfl
   rw [R19_has_L1_eq]
   by_cases he:s=n
   ·have hb:(s == n)=true:=by simpa using he
    simp only [go_sem,hxl,hlt,R19_has_J2_eq,hidx,aload_vpc,hse,hb]
    simp [he]
   ·have hb:(s == n)=false:=by simpa using he
    have k:=ih (d++[s]) (by rw [hd];simp)
    rw [List.length_append,List.length_singleton] at k
    simp only [go_sem,hxl,hlt,R19_has_J2_eq,hidx,aload_vpc,hse,hb,R19_has_J3_eq,hw1,k]
    have:¬ n=s:=fun e=>he e.symm
    simp [this]
 rw [F_R19_has_eq]
 unfold F_R19_has
 exact loop l [] rfl
theorem rwithout_run {x:AV} {l:List Txt} (hx:SS x l) (hl:l.length≤1048575) (n:Txt) (H:Hp):∃ x' H',C_R19_without [x,.str n] H=some (x',H')∧NmAt H' x' (keptL n l)∧Stp [] H H'∧(∀ a ∈ tokA x',H.length≤a)∧x'.cells=[x']∧x'.known=true∧(tokA x').Nodup:=by
 have hxl:∀ t,alenD (.slice t) x=some (.int .i64 (l.length:Int)):=fun t=>hx.len t
 have loop : ∀ (q d O : List Txt) (y : AV) (H1 : Hp), l = d ++ q → O.length ≤ d.length → NmAt H1 y O → Stp [] H H1 → (∀ a ∈ tokA y, H.length ≤ a) → y.cells = [y] → y.known = true → (tokA y).Nodup →
     ∃ x' H',R19_without_L1 x (.str n) y (.int .i64 (d.length:Int)) H H1=some (x',H')∧NmAt H' x' (O++keptL n q)∧Stp [] H H'∧(∀ a ∈ tokA x',H.length≤a)∧x'.cells=[x']∧x'.known=true∧(tokA x').Nodup:=by
  intro q
  induction q with
  | nil =>
   intro d O y H1 hd hO h1 h2 h3 h4 h5 h6
   rw [List.append_nil] at hd
   subst hd
   have hlt:decide ((l.length:Int) < (l.length:Int))=false:=by simp
   refine ⟨y,H1,?_,by simpa [keptL] using h1,h2,h3,h4,h5,h6⟩
   rw [R19_without_L1_eq]
   simp only [go_sem,hxl,hlt,R19_without_J1_eq]
  | cons s q ih =>
   intro d O y H1 hd hO h1 h2 h3 h4 h5 h6
   have hlen:l.length=d.length+(q.length+1):=by rw [hd];simp
   have hlt:decide ((d.length:Int) < (l.length:Int))=true:=by simp;omega
   have hw1:IntKind.i64.wrap ((d.length:Int)+1)=((d.length+1:Nat):Int):=by rw [wrap64 (by omega) (by omega)];omega
   have his:l[d.length]?=some s:=by rw [hd,List.getElem?_append_right (Nat.le_refl _)];simp
   have hidx:=SS.idx hx his
   have hse:sbin .neq (.str s) (.str n)=some (.bool (!(s == n))):=rfl
   rw [R19_without_L1_eq]
   by_cases he:s=n
   ·have hb:(!(s == n))=false:=by simpa using he
    obtain ⟨x',H',k,k2⟩:=ih (d++[s]) O y H1 (by rw [hd];simp) (by simp;omega) h1 h2 h3 h4 h5 h6
    rw [List.length_append,List.length_singleton] at k
    have hkl:keptL n (s :: q)=keptL n q:=by unfold keptL;rw [List.filter_cons_of_neg (by simp [he])]
    rw [hkl]
    exact ⟨x',H',by simp only [go_sem,hxl,hlt,R19_without_J2_eq,hidx,aload_vpc,hse,hb,R19_without_J3_eq,hw1];exact k,k2⟩
   ·have hb:(!(s == n))=true:=by simpa using he
    obtain ⟨y2,H2,p1,p2,p3,p4,p5,p6,p7⟩:=h1.app s (by omega)
    have hl2:=h2.len
    obtain ⟨x',H',k,k2⟩:=ih (d++[s]) (O++[s]) y2 H2 (by rw [hd];simp) (by simp;omega) p2 (h2.trans p3 (fun _ h=>h) fun a ha=>.inr (h3 a ha)) (fun a ha=>by
     rcases p4 a ha with k | k
     ·exact h3 a k
     ·omega) p5 p6 p7
    rw [List.length_append,List.length_singleton] at k
    have hkl:keptL n (s :: q)=s :: keptL n q:=by unfold keptL;rw [List.filter_cons_of_pos (by simpa using he)]
    rw [hkl]
    exact ⟨x',H',by simp only [go_sem,hxl,hlt,R19_without_J2_eq,hidx,aload_vpc,hse,hb,one_str,p1,R19_without_J3_eq,hw1];exact k,by simpa [List.append_assoc] using k2⟩
 rw [F_R19_without_eq]
 unfold F_R19_without
 have:=loop l [] [] .nils H rfl (by simp) (.inl ⟨rfl,rfl⟩) (Stp.refl _ _) (fun a ha=>by cases ha) rfl rfl (by simp [tokA])
 exact this
def rtC (r:Nat) (nx sx:AV) (tm:Tmp):List AV:=[.ptr r 0,.str tm.owner,.int .i64 (tm.limit:Int),.int .i64 (tm.last:Int),nx,sx,.bool tm.closed]
structure RTAt (H:Hp) (y r:Nat) (nx sx:AV) (tm:Tmp):Prop where
 cells:H[y]?=some (.cells (rtC r nx sx tm))
 names:NmAt H nx tm.names
 sld:NmAt H sx tm.sld
 nd:(y :: (tokA nx++tokA sx)).Nodup
def RSysAt (H:Hp) (y r:Nat) (tm:Tmp) (s:Sto) (A:List Nat):Prop:=∃ nx sx R,RTAt H y r nx sx tm∧RefAt H r s R∧(∀ a ∈ y :: (tokA nx++tokA sx),a ∉ R)∧A=(y :: (tokA nx++tokA sx))++R
structure RSysRes (H H':Hp) (y r:Nat) (tm':Tmp) (s':Sto) (A A':List Nat):Prop where
 at':RSysAt H' y r tm' s' A'
 stp:Stp A H H'
 own:∀ a ∈ A',a ∈ A ∨ H.length≤a
theorem RTAt.lt {H:Hp} {y r:Nat} {nx sx:AV} {tm:Tmp} (h:RTAt H y r nx sx tm):∀ a ∈ y :: (tokA nx++tokA sx),a < H.length:=by
 have key:∀ {x:AV} {l:List Txt},NmAt H x l→∀ a ∈ tokA x,a < H.length:=by
  intro x l hx a ha
  rcases hx with ⟨rfl,_⟩ | ⟨t,e,rfl,ht⟩
  ·cases ha
  ·rw [List.mem_singleton.1 ha];exact lt_of_get ht
 intro a ha
 rcases List.mem_cons.1 ha with e | ha
 ·subst e;exact lt_of_get h.cells
 ·rcases List.mem_append.1 ha with ha | ha
  ·exact key h.names a ha
  ·exact key h.sld a ha
theorem RTAt.frame {H H':Hp} {y r:Nat} {nx sx:AV} {tm:Tmp} (h:RTAt H y r nx sx tm) (hf:∀ a ∈ y :: (tokA nx++tokA sx),H'[a]?=H[a]?):RTAt H' y r nx sx tm :=
 ⟨(hf _ (by simp)).trans h.cells,h.names.frame fun a ha=>hf a (by simp [ha]),h.sld.frame fun a ha=>hf a (by simp [ha]),h.nd⟩
theorem RSysAt.lt {H:Hp} {y r:Nat} {tm:Tmp} {s:Sto} {A:List Nat} (h:RSysAt H y r tm s A):∀ a ∈ A,a < H.length:=by
 obtain ⟨nx,sx,R,h1,h2,h3,rfl⟩:=h
 intro a ha
 rcases List.mem_append.1 ha with k | k
 ·exact h1.lt a k
 ·exact h2.lt a k
theorem RSysAt.frame {H H':Hp} {y r:Nat} {tm:Tmp} {s:Sto} {A:List Nat} (h:RSysAt H y r tm s A) (hf:∀ a ∈ A,H'[a]?=H[a]?):RSysAt H' y r tm s A:=by
 obtain ⟨nx,sx,R,h1,h2,h3,rfl⟩:=h
 exact ⟨nx,sx,R,h1.frame fun a ha=>hf a (List.mem_append_left _ ha),h2.frame fun a ha=>hf a (by simp [ha]),h3,rfl⟩
theorem RSysAt.self {H:Hp} {y r:Nat} {tm:Tmp} {s:Sto} {A:List Nat} (h:RSysAt H y r tm s A):RSysRes H H y r tm s A A:=⟨h,Stp.refl _ _,fun a ha=>.inl ha⟩
theorem rsys_mk {H H1 H2 : Hp} {y r : Nat} {nx sx nx' sx' : AV} {tm tm' : Tmp} {s' : Sto} {R R1 : List Nat} (h1 : RTAt H y r nx sx tm) (h3 : ∀ a ∈ y :: (tokA nx ++ tokA sx), a ∉ R) (r2 : RefRes H H1 r s' R R1) (hT : RTAt H2 y r nx' sx' tm') (hS : Stp (y :: (tokA nx ++ tokA sx)) H1 H2) (hn : ∀ a ∈ tokA nx' ++ tokA sx', a ∈ tokA nx ++ tokA sx ∨ H1.length ≤ a) :
    RSysRes H H2 y r tm' s' ((y :: (tokA nx++tokA sx))++R) ((y :: (tokA nx'++tokA sx'))++R1):=by
 have hlt:=r2.at'.lt
 have hl1:=r2.stp.len
 have hd1:∀ a ∈ y :: (tokA nx++tokA sx),a ∉ R1:=fun a ha hs=>by
  rcases r2.own a hs with k1 | k1
  ·exact h3 a ha k1
  ·have:=h1.lt a ha;omega
 have hd2:∀ a ∈ y :: (tokA nx'++tokA sx'),a ∉ R1:=fun a ha hs=>by
  rcases List.mem_cons.1 ha with e | ha
  ·exact hd1 a (by simp [e]) hs
  ·rcases hn a ha with k | k
   ·exact hd1 a (List.mem_cons_of_mem _ k) hs
   ·have:=hlt a hs;omega
 refine ⟨⟨nx',sx',R1,hT,r2.at'.stp hS fun a ha hb=>hd1 a hb ha,hd2,rfl⟩,(r2.stp.mono fun a ha=>List.mem_append_right _ ha).trans hS (fun _ h=>h) fun a ha=>.inl (List.mem_append_left _ ha),fun a ha=>?_⟩
 rcases List.mem_append.1 ha with k | k
 ·rcases List.mem_cons.1 k with e | k
  ·exact .inl (by simp [e])
  ·rcases hn a k with k | k
   ·exact .inl (by simp only [List.mem_append,List.mem_cons];exact .inl (.inr (List.mem_append.1 k)))
   ·exact .inr (by omega)
 ·rcases r2.own a k with k1 | k1
  ·exact .inl (List.mem_append_right _ k1)
  ·exact .inr k1
theorem rsys_sto {H H1:Hp} {y r:Nat} {nx sx:AV} {tm:Tmp} {s':Sto} {R R1:List Nat} (h1:RTAt H y r nx sx tm) (h3:∀ a ∈ y :: (tokA nx++tokA sx),a ∉ R) (r2:RefRes H H1 r s' R R1):RSysRes H H1 y r tm s' ((y :: (tokA nx++tokA sx))++R) ((y :: (tokA nx++tokA sx))++R1) :=
 rsys_mk h1 h3 r2 (h1.frame fun a ha=>r2.stp.at' a (h1.lt a ha) (h3 a ha)) (Stp.refl _ _) fun a ha=>.inl ha
end Go.Am
namespace Go.Am
set_option linter.unusedSimpArgs false
set_option linter.unusedVariables false
set_option linter.unusedSectionVars false
set_option maxRecDepth 100000

theorem bv64 {n:Nat} (h:n < 4294967296):(BitVec.ofInt IntKind.i64.bits (n:Int)).toNat=n:=by
 rw [BitVec.ofInt_natCast,BitVec.toNat_ofNat]
 exact Nat.mod_eq_of_lt (Nat.lt_of_lt_of_le h (by decide))
theorem xorN {m n:Nat} (hm:m < 4294967296) (hn:n < 4294967296):ibin .xor (.int .i64 (m:Int)) (.int .i64 (n:Int))=some (.int .i64 ((m ^^^ n:Nat):Int)):=by
 have hx:m ^^^ n < 4294967296:=Nat.xor_lt_two_pow (n:=32) hm hn
 unfold ibin ashift
 simp only [if_true,intbin]
 rw [BitVec.toNat_xor,bv64 hm,bv64 hn,wrap64 (by omega) (by omega)]
def bitsN:Nat→Nat→Nat
 | 0,r=>r
 | k+1,r=>bitsN k (bstepN r)
theorem bits8 (r:Nat):bitsN 8 r=nibN (nibN r):=rfl
theorem rcrc_bits (x0 x4:AV) (H0 H:Hp):∀ (k r:Nat),k≤8→r < 4294967296→Sg.R17_Crc_L2 x0 (.int .i64 (r:Int)) x4 (.int .i64 ((8 - k:Nat):Int)) H0 H=Sg.R17_Crc_J3 x0 (.int .i64 ((bitsN k r:Nat):Int)) x4 H0 H:=by
 intro k
 induction k with
 | zero =>
  intro r _ _
  have d:decide (((8 - 0:Nat):Int) < 8)=false:=rfl
  rw [Sg.R17_Crc_L2_eq]
  simp only [go_sem,d,bitsN]
 | succ k ih =>
  intro r hk hr
  have d:decide (((8 - (k+1):Nat):Int) < 8)=true:=by simp;omega
  have hw:IntKind.i64.wrap (((8 - (k+1):Nat):Int)+1)=((8 - k:Nat):Int):=by rw [wrap64 (by omega) (by omega)];omega
  have r1:=remN r 2 (by omega)
  have q1:=quoN r 2 (by omega) (by omega)
  rw [show ((2:Nat):Int)=2 from rfl] at r1 q1
  have hi:=ih (bstepN r) (by omega) (bstepN_lt hr)
  rw [Sg.R17_Crc_L2_eq]
  unfold bstepN at hi
  by_cases ho:r % 2=1
  ·have e:(((r % 2:Nat):Int) == 1)=true:=by rw [ho];rfl
   have hx:=xorN (m:=r / 2) (n:=3988292384) (by omega) (by omega)
   rw [show ((3988292384:Nat):Int)=3988292384 from rfl] at hx
   rw [if_pos ho] at hi
   simp only [go_sem,d,Sg.R17_Crc_J4_eq,r1,e,q1,hx,Sg.R17_Crc_J5_eq,hw,hi,bitsN,bstepN,if_pos ho]
  ·have e:(((r % 2:Nat):Int) == 1)=false:=by rw [beq_eq_false_iff_ne];omega
   rw [if_neg ho] at hi
   simp only [go_sem,d,Sg.R17_Crc_J4_eq,r1,e,q1,Sg.R17_Crc_J5_eq,hw,hi,bitsN,bstepN,if_neg ho]
theorem rcrc_loop (s:Txt) (hs:s.length≤1048576) (H0 H:Hp):∀ (r d:Txt),s=d++r→Sg.R17_Crc_L1 (.str s) (.int .i64 ((crcN d:Nat):Int)) (.int .i64 (d.length:Int)) H0 H=some (.int .u32 (crcS s),H):=by
 have hal:alenD .string (.str s)=some (.int .i64 (s.length:Int)):=rfl
 intro r
 induction r with
 | nil =>
  intro d hd
  rw [List.append_nil] at hd
  subst hd
  have hlt:decide ((s.length:Int) < (s.length:Int))=false:=by simp
  have hb:=(crcL_nat s).2
  have hw:IntKind.i64.wrap (4294967295 - ((crcN s:Nat):Int))=((4294967295 - crcN s:Nat):Int):=by rw [wrap64 (by omega) (by omega)];omega
  have hcv:cvInt .u32 (.int .i64 ((4294967295 - crcN s:Nat):Int))=some (.int .u32 ((4294967295 - crcN s:Nat):Int)):=by
   unfold cvInt
   dsimp only
   rw [wrap32 (by omega)]
  rw [Sg.R17_Crc_L1_eq,crcS_nat]
  simp only [go_sem,hal,hlt,Sg.R17_Crc_J1_eq,hw,hcv]
 | cons b r ih =>
  intro d hd
  have hlen:s.length=d.length+(r.length+1):=by rw [hd];simp
  have hlt:decide ((d.length:Int) < (s.length:Int))=true:=by simp;omega
  have hw1:IntKind.i64.wrap ((d.length:Int)+1)=((d.length+1:Nat):Int):=by rw [wrap64 (by omega) (by omega)];omega
  have hidx:aindexStr (.str s) (.int .i64 (d.length:Int))=some (.int .u8 (b.toNat:Int)):=aindexStr_of (by rw [hd,List.getElem?_append_right (Nat.le_refl _)];simp)
  have hbt:=b.toNat_lt
  have hcv:cvInt .i64 (.int .u8 (b.toNat:Int))=some (.int .i64 (b.toNat:Int)):=by
   unfold cvInt
   dsimp only
   rw [wrap64 (by omega) (by omega)]
  have hcd:=(crcL_nat d).2
  have hx:=xorN (m:=crcN d) (n:=b.toNat) hcd (by omega)
  have hbits:=rcrc_bits (.str s) (.int .i64 (d.length:Int)) H0 H 8 (crcN d ^^^ b.toNat) (Nat.le_refl _) (step_lt hcd b)
  rw [bits8,← crcN_app,show ((8 - 8:Nat):Int)=0 from rfl] at hbits
  have ih':=ih (d++[b]) (by rw [hd];simp)
  rw [List.length_append,List.length_singleton] at ih'
  rw [Sg.R17_Crc_L1_eq]
  simp only [go_sem,hal,hlt,Sg.R17_Crc_J2_eq,hidx,hcv,hx,hbits,Sg.R17_Crc_J3_eq,hw1]
  exact ih'
theorem rcrc_flat (s:Txt) (hs:s.length≤1048576) (H:Hp):flatC Sg.C_R17_Crc [.str s] H=some (.int .u32 (crcS s),H):=by
 refine flat1 (a':=.str s) rfl (H1:=[]) ?_ rfl
 rw [Sg.F_R17_Crc_eq]
 unfold Sg.F_R17_Crc
 exact rcrc_loop s hs [] [] s [] rfl
theorem row_app {H : Hp} {o e : Nat} {l : Txt} (h : H[o]? = some (.row e (l.map bv))) (hl : l.length ≤ 1048576) (b : Nat) (hb : b < 256) :
    aappEL false 1 1 (.ws false 1 o e l.length) (.vs 1 .clip [.int .u8 (b:Int)]) H=some (.ws false 1 o (e+1) (l++[UInt8.ofNat b]).length,H.set o (.row (e+1) ((l++[UInt8.ofNat b]).map bv))):=by
 have hfit:fits (l.length+[AV.int .u8 (b:Int)].length) 1=true:=by simp [fits];omega
 have hbv:bv (UInt8.ofNat b)=.int .u8 (b:Int):=by
  show AV.int .u8 ((UInt8.ofNat b).toNat:Int)=_
  rw [UInt8.toNat_ofNat']
  have:b % 2 ^ 8=b:=Nat.mod_eq_of_lt hb
  rw [this]
 unfold aappEL
 have he:Go.Am.elems 1 (.vs 1 .clip [.int .u8 (b:Int)]) H=some [.int .u8 (b:Int)]:=rfl
 rw [he]
 dsimp only
 unfold aappL
 simp only [hfit,and_self,if_true,h,List.length_map,Nat.mul_one]
 rw [if_neg (by simp)]
 simp [hbv,AV.cells]
theorem row_read {H:Hp} {o e:Nat} {l:Txt} (h:H[o]?=some (.row e (l.map bv))):cvRd (.ws false 1 o e l.length) H=some (.str l):=by
 have he:elemsS (.ws false 1 o e l.length) H=some (l.map bv):=by
  show Go.Am.elems 1 (.ws false 1 o e l.length) H=_
  unfold Go.Am.elems
  dsimp only
  rw [if_pos ⟨rfl,.inr rfl⟩,h]
  dsimp only
  rw [if_pos ⟨rfl,by simp⟩]
  have:∀ m:List AV,chunks false 1 m.length m=m:=fun m=>by
   induction m with
   | nil=>rfl
   | cons a m ih=>simp only [List.length_cons,chunks];rw [List.drop_one,List.tail_cons,ih];rfl
  have:=this (l.map bv)
  rw [List.length_map] at this
  rw [this]
 have hc:cvOfBytes (.ws false 1 o e l.length)=none:=rfl
 unfold cvRd
 rw [hc,he]
 dsimp only
 rw [bytesOf_map]
theorem rseal_run (s:Txt) (hs:s.length≤1048000) (H:Hp):∃ H',sealE.run [.str s] H=some (.str (s++sumS s),H'):=by
 have hc:=crcS_nat s
 have hb:=(crcL_nat s).2
 have hcv:cvInt .i64 (.int .u32 (crcS s))=some (.int .i64 ((4294967295 - crcN s:Nat):Int)):=by
  rw [hc]
  unfold cvInt
  dsimp only
  rw [wrap64 (by omega) (by omega)]
 have hrow:cvRow (.str s) H=some (.ws false 1 H.length 0 s.length,H++[.row 0 (s.map bv)]):=rfl
 have g0:(H++[AObj.row 0 (s.map bv)])[H.length]?=some (.row 0 (s.map bv)):=by simp
 have step : ∀ (c i : Nat) (l : Txt) (e : Nat) (H1 H0 : Hp), c < 4294967296 → i < 4 → l.length ≤ 1048500 → H1[H.length]? = some (.row e (l.map bv)) →
     ∃ H2,Sg.R17_seal_L1 (.int .i64 (c:Int)) (.ws false 1 H.length e l.length) (.int .i64 (i:Int)) H0 H1=Sg.R17_seal_L1 (.int .i64 ((c / 256:Nat):Int)) (.ws false 1 H.length (e+1) (l++[byN c]).length) (.int .i64 ((i+1:Nat):Int)) H0 H2∧H2[H.length]?=some (.row (e+1) ((l++[byN c]).map bv)):=by
  intro c i l e H1 H0 hc4 hi hl hg
  have d:decide ((i:Int) < 4)=true:=by simp;omega
  have r1:=remN c 256 (by omega)
  have q1:=quoN c 256 (by omega) (by omega)
  rw [show ((256:Nat):Int)=256 from rfl] at r1 q1
  have cv:cvInt .u8 (.int .i64 ((c % 256:Nat):Int))=some (.int .u8 ((c % 256:Nat):Int)):=by
   have e1:(2 ^ IntKind.u8.bits:Int)=256:=by decide
   have e2:IntKind.u8.signed=false:=rfl
   unfold cvInt IntKind.wrap
   simp only [e1,e2,Bool.false_and,Bool.false_eq_true,if_false]
   congr 2
   omega
  have hse:(setElems 1 [(0,.int .u8 ((c % 256:Nat):Int))] [(.int .u8 0)]).map (AV.vs 1 .clip)=some (.vs 1 .clip [.int .u8 ((c % 256:Nat):Int)]):=rfl
  have ha:=row_app hg (by omega) (c % 256) (Nat.mod_lt _ (by omega))
  have hw:IntKind.i64.wrap ((i:Int)+1)=((i+1:Nat):Int):=by rw [wrap64 (by omega) (by omega)];omega
  refine ⟨_,?_,get_set_eq _ hg⟩
  rw [Sg.R17_seal_L1_eq]
  simp only [go_sem,d,Sg.R17_seal_J2_eq,r1,cv,hse,ha,q1,Sg.R17_seal_J3_eq,hw]
  rfl
 have hlt0:4294967295 - crcN s < 4294967296:=by omega
 obtain ⟨H1,a1,a2⟩:=step (4294967295 - crcN s) 0 s 0 _ H hlt0 (by omega) (by omega) g0
 obtain ⟨H2,b1,b2⟩:=step _ 1 _ _ _ H (Nat.lt_of_le_of_lt (Nat.div_le_self _ _) hlt0) (by omega) (by simp;omega) a2
 obtain ⟨H3,c1,c2⟩:=step _ 2 _ _ _ H (Nat.lt_of_le_of_lt (Nat.div_le_self _ _) (Nat.lt_of_le_of_lt (Nat.div_le_self _ _) hlt0)) (by omega) (by simp;omega) b2
 obtain ⟨H4,d1,d2⟩:=step _ 3 _ _ _ H (Nat.lt_of_le_of_lt (Nat.div_le_self _ _) (Nat.lt_of_le_of_lt (Nat.div_le_self _ _) (Nat.lt_of_le_of_lt (Nat.div_le_self _ _) hlt0))) (by omega) (by simp;omega) c2
 have hrd:=row_read d2
 have hd4:decide (((3+1:Nat):Int) < 4)=false:=rfl
 refine ⟨H4,?_⟩
 rw [sealE_eq]
 unfold Sg.F_R17_seal
 rw [sumS_nat]
 simp only [rcrc_flat s (by omega),go_sem,hcv,hrow]
 refine a1.trans (b1.trans (c1.trans (d1.trans ?_)))
 rw [Sg.R17_seal_L1_eq]
 simp only [go_sem,hd4,Sg.R17_seal_J1_eq,hrd]
 simp [List.append_assoc]
theorem rrec_flat (s:Txt) (hs:s.length≤1000000) (H:Hp):flatC C_R17_Record [.str s] H=some (if 4096 < s.length then .tuple [.str [],.int .i64 3] else .tuple [.str (recS s),.int .i64 0],H):=by
 have hal:alenD .string (.str s)=some (.int .i64 (s.length:Int)):=rfl
 by_cases h:4096 < s.length
 ·have hd:decide ((4096:Int) < (s.length:Int))=true:=by rw [decide_eq_true_eq];omega
  rw [if_pos h]
  refine flat1 (a':=.str s) rfl (H1:=[]) ?_ rfl
  rw [F_R17_Record_eq]
  unfold F_R17_Record
  simp only [go_sem,hal,hd]
 ·have hd:decide ((4096:Int) < (s.length:Int))=false:=by simp;omega
  rw [if_neg h]
  have q1:=quoN s.length 256 (by omega) (by omega)
  have r1:=remN s.length 256 (by omega)
  rw [show ((256:Nat):Int)=256 from rfl] at q1 r1
  have e1:(2 ^ IntKind.u8.bits:Int)=256:=by decide
  have e2:IntKind.u8.signed=false:=rfl
  have cv:∀ m:Nat,m < 256→cvInt .u8 (.int .i64 (m:Int))=some (.int .u8 (m:Int)):=fun m hm=>by
   unfold cvInt IntKind.wrap
   simp only [e1,e2,Bool.false_and,Bool.false_eq_true,if_false]
   congr 2
   omega
  have c1:=cv (s.length / 256) (by omega)
  have c2:=cv (s.length % 256) (by omega)
  have hse:(setElems 1 [(0,.int .u8 ((s.length / 256:Nat):Int)),(1,.int .u8 ((s.length % 256:Nat):Int))] [(.int .u8 0),(.int .u8 0)]).map (AV.vs 1 .clip)=some (.vs 1 .clip [.int .u8 ((s.length / 256:Nat):Int),.int .u8 ((s.length % 256:Nat):Int)]):=rfl
  have hrd:cvRd (.vs 1 .clip [.int .u8 ((s.length / 256:Nat):Int),.int .u8 ((s.length % 256:Nat):Int)]) []=some (.str [UInt8.ofNat (s.length / 256),UInt8.ofNat (s.length % 256)]):=rfl
  have hh:[UInt8.ofNat (s.length / 256),UInt8.ofNat (s.length % 256)]++s=headS s:=by
   unfold headS
   have s8:shrK .i64 8 (s.length:Int)=((s.length / 256:Nat):Int):=by
    unfold shrK
    rw [show min 8 IntKind.i64.bits=8 from rfl,show (2:Int) ^ 8=((256:Nat):Int) from rfl]
    exact Int.fdiv_eq_ediv_of_nonneg _ (Int.natCast_nonneg _)
   rw [s8,byteOf_nat,byteOf_nat]
   unfold byN
   rw [Nat.mod_eq_of_lt (show s.length / 256 < 256 by omega)]
  have hadd:sbin .add (.str [UInt8.ofNat (s.length / 256),UInt8.ofNat (s.length % 256)]) (.str s)=some (.str (headS s)):=by rw [sbin_add (by simp;omega),hh]
  obtain ⟨H',hs'⟩:=rseal_run (headS s) (by rw [headS_len];omega) []
  refine flat1 (a':=.str s) rfl (H1:=H') ?_ rfl
  rw [F_R17_Record_eq]
  unfold F_R17_Record
  simp only [go_sem,hal,hd,R17_Record_J1_eq,q1,r1,c1,c2,hse,hrd,hadd,hs']
  rfl
theorem TxAt.read {H:Hp} {x:AV} {l:Txt} (h:TxAt H x l):cvRd x H=some (.str l):=by
 rcases h with ⟨rfl,rfl⟩ | ⟨t,e,rfl,_⟩ | rfl
 ·rfl
 ·unfold cvRd;rw [cvOf_map]
 ·unfold cvRd;rw [cvOf_map]
theorem renc_loop {x : AV} {l : List Txt} (hx : SS x l) (hL : ∀ s ∈ l, s.length ≤ 1000000) (hl : costR l ≤ 1048576) (H0 : Hp) : ∀ (r d : List Txt) (y : AV) (H : Hp), l = d ++ r → fitsR d = true → TxAt H y (encS d) →
    ∃ H',R17_Encode_L1 x y (.int .i64 (d.length:Int)) H0 H=some (if fitsR l=true then .tuple [.str (encS l),.int .i64 0] else .tuple [.str [],.int .i64 3],H'):=by
 have hxl:∀ t,alenD (.slice t) x=some (.int .i64 (l.length:Int)):=fun t=>hx.len t
 intro r
 induction r with
 | nil =>
  intro d y H hd hf hy
  rw [List.append_nil] at hd
  subst hd
  have hlt:decide ((l.length:Int) < (l.length:Int))=false:=by simp
  refine ⟨H,?_⟩
  rw [R17_Encode_L1_eq]
  simp only [go_sem,hxl,hlt,R17_Encode_J1_eq,hy.read,if_pos hf]
 | cons s r ih =>
  intro d y H hd hf hy
  have hcl:∀ l:List Txt,6 * l.length≤costR l:=by
   intro l
   induction l with
   | nil=>simp [costR]
   | cons s l ih=>simp only [costR,List.length_cons];omega
  have:=hcl l
  have hlen:l.length=d.length+(r.length+1):=by rw [hd];simp
  have hlt:decide ((d.length:Int) < (l.length:Int))=true:=by simp;omega
  have hw1:IntKind.i64.wrap ((d.length:Int)+1)=((d.length+1:Nat):Int):=by rw [wrap64 (by omega) (by omega)];omega
  have his:l[d.length]?=some s:=by rw [hd,List.getElem?_append_right (Nat.le_refl _)];simp
  have hidx:=SS.idx hx his
  have hs:=hL s (by rw [hd];simp)
  have hrec:=rrec_flat s hs H
  rw [R17_Encode_L1_eq]
  by_cases h:4096 < s.length
  ·have hno : fitsR l = false := by
      rw [hd]
      simp only [fitsR,List.all_append,List.all_cons]
      rw [show decide (s.length≤4096)=false by simp;omega]
      simp
   have e3:((3:Int) != 0)=true:=rfl
   rw [if_pos h] at hrec
   refine ⟨H,?_⟩
   simp only [go_sem,hxl,hlt,R17_Encode_J2_eq,hidx,aload_vpc,hrec,List.getElem?_cons_zero,List.getElem?_cons_succ,e3,hno,Bool.false_eq_true,if_false]
  ·have e0:((0:Int) != 0)=false:=rfl
   rw [if_neg h] at hrec
   have hcost:costR l=costR d+(s.length+6+costR r):=by rw [hd,costR_app];rfl
   obtain ⟨y2,H2,a1,a2,_⟩:=hy.app (recS s) (by rw [encS_len,recS_len];omega)
   have hen:encS (d++[s])=encS d++recS s:=by rw [encS_app];simp [encS]
   obtain ⟨H',m1⟩:=ih (d++[s]) y2 H2 (by rw [hd];simp) (by
    have:fitsR (d++[s])=(fitsR d && (decide (s.length≤4096) && true)):=by simp [fitsR]
    rw [this,hf];simp;omega) (by rw [hen];exact a2)
   rw [List.length_append,List.length_singleton] at m1
   refine ⟨H',?_⟩
   simp only [go_sem,hxl,hlt,R17_Encode_J2_eq,hidx,aload_vpc,hrec,List.getElem?_cons_zero,List.getElem?_cons_succ,e0,R17_Encode_J4_eq,a1,R17_Encode_J3_eq,hw1]
   exact m1
theorem renc_flat {x : AV} {l : List Txt} (hx : SS x l) (hL : ∀ s ∈ l, s.length ≤ 1000000) (hl : costR l ≤ 1048576) (H : Hp) :
    flatC C_R17_Encode [x] H=some (if fitsR l=true then .tuple [.str (encS l),.int .i64 0] else .tuple [.str [],.int .i64 3],H):=by
 obtain ⟨x1,k1,k2⟩:=SS.closed hx [] 0 4
 obtain ⟨H',m1⟩:=renc_loop k2 hL hl [] l [] .nils [] rfl rfl (.inl ⟨rfl,rfl⟩)
 refine flat1 k1 (H1:=H') ?_ (by split <;> rfl)
 rw [F_R17_Encode_eq]
 unfold F_R17_Encode
 exact m1
theorem rdLen_nat (a b:UInt8):rdLen a b=((a.toNat * 256+b.toNat:Nat):Int):=by
 have ha:=a.toNat_lt
 have hb:=b.toNat_lt
 have w1:IntKind.i64.wrap (a.toNat:Int)=(a.toNat:Int):=wrap64 (by omega) (by omega)
 have w2:IntKind.i64.wrap (b.toNat:Int)=(b.toNat:Int):=wrap64 (by omega) (by omega)
 have w3:shl8 (a.toNat:Int)=((a.toNat * 256:Nat):Int):=by
  unfold shl8
  rw [show min 8 IntKind.i64.bits=8 from rfl,show (2:Int) ^ 8=256 from rfl,wrap64 (by omega) (by omega)]
  omega
 unfold rdLen
 rw [w1,w2,w3]
 unfold or64
 rw [BitVec.toNat_or,bv64 (by omega),bv64 (by omega)]
 have:a.toNat * 256 ||| b.toNat=a.toNat * 256+b.toNat:=by
  have:=Nat.two_pow_add_eq_or_of_lt (i:=8) (b:=b.toNat) (by omega) a.toNat
  rw [Nat.mul_comm,show (256:Nat)=2 ^ 8 from rfl]
  exact this.symm
 rw [this,wrap64 (by omega) (by omega)]
theorem rnext_flat (g:Txt) (hg:g.length≤1000000) (H:Hp):flatC C_R17_Next [.str g,.int .i64 0] H=some (.tuple [.str (nextV g).1,.int .i64 (nextV g).2.1,.int .i64 (nextV g).2.2],H):=by
 have hal:alenD .string (.str g)=some (.int .i64 (g.length:Int)):=rfl
 have h0:decide ((0:Int) < 0)=false:=rfl
 have h1:decide ((g.length:Int) < 0)=false:=by rw [decide_eq_false_iff_not];omega
 have hw:IntKind.i64.wrap ((g.length:Int) - 0)=(g.length:Int):=by rw [Int.sub_zero,wrap64 (by omega) (by omega)]
 match g,hg with
 | [],hg =>
  have d:decide ((([]:Txt).length:Int) < 2)=true:=rfl
  refine flat2 (a':=.str []) (b':=.int .i64 0) rfl rfl (H1:=[]) ?_ rfl
  rw [F_R17_Next_eq]
  unfold F_R17_Next
  simp only [go_sem,h0,hal,h1,R17_Next_J1_eq,hw,d]
  rfl
 | [a],hg =>
  have d:decide ((([a]:Txt).length:Int) < 2)=true:=rfl
  refine flat2 (a':=.str [a]) (b':=.int .i64 0) rfl rfl (H1:=[]) ?_ rfl
  rw [F_R17_Next_eq]
  unfold F_R17_Next
  simp only [go_sem,h0,hal,h1,R17_Next_J1_eq,hw,d]
  rfl
 | a :: b :: r,hg =>
  have ha:=a.toNat_lt
  have hb:=b.toNat_lt
  have d2:decide (((a :: b :: r).length:Int) < 2)=false:=by rw [decide_eq_false_iff_not];simp;omega
  have i0:aindexStr (.str (a :: b :: r)) (.int .i64 0)=some (.int .u8 (a.toNat:Int)):=aindexStr_of (i:=0) rfl
  have i1:aindexStr (.str (a :: b :: r)) (.int .i64 1)=some (.int .u8 (b.toNat:Int)):=aindexStr_of (i:=1) rfl
  have cv:∀ n:Nat,n < 256→cvInt .i64 (.int .u8 (n:Int))=some (.int .i64 (n:Int)):=fun n hn=>by
   unfold cvInt
   dsimp only
   rw [wrap64 (by omega) (by omega)]
  have ca:=cv a.toNat ha
  have cb:=cv b.toNat hb
  have wm:IntKind.i64.wrap ((a.toNat:Int) * 256)=((a.toNat * 256:Nat):Int):=by rw [wrap64 (by omega) (by omega)];omega
  have wa:IntKind.i64.wrap (((a.toNat * 256:Nat):Int)+(b.toNat:Int))=((a.toNat * 256+b.toNat:Nat):Int):=by rw [wrap64 (by omega) (by omega)];omega
  have w01:IntKind.i64.wrap (0+1)=1:=rfl
  unfold nextV
  dsimp only
  rw [rdLen_nat]
  generalize hG:a :: b :: r=G at *
  generalize hz:a.toNat * 256+b.toNat=z at *
  have hz2:z < 65536:=by omega
  rw [show (((z:Nat):Int)).toNat=z from Int.toNat_natCast z]
  by_cases h3:4096 < (z:Int)
  ·have d3:decide ((4096:Int) < (z:Int))=true:=decide_eq_true h3
   rw [if_pos h3]
   refine flat2 (a':=.str G) (b':=.int .i64 0) rfl rfl (H1:=[]) ?_ rfl
   rw [F_R17_Next_eq]
   unfold F_R17_Next
   simp only [go_sem,h0,hal,h1,R17_Next_J1_eq,hw,d2,R17_Next_J2_eq,i0,ca,wm,w01,i1,cb,wa,d3]
  ·have d3:decide ((4096:Int) < (z:Int))=false:=decide_eq_false h3
   rw [if_neg h3]
   have w6:IntKind.i64.wrap ((z:Int)+6)=((z+6:Nat):Int):=by rw [wrap64 (by omega) (by omega)];omega
   by_cases h4:(G.length:Int) < (z:Int)+6
   ·have d4:decide ((G.length:Int) < ((z+6:Nat):Int))=true:=by rw [decide_eq_true_eq];omega
    rw [if_pos h4]
    refine flat2 (a':=.str G) (b':=.int .i64 0) rfl rfl (H1:=[]) ?_ rfl
    rw [F_R17_Next_eq]
    unfold F_R17_Next
    simp only [go_sem,h0,hal,h1,R17_Next_J1_eq,hw,d2,R17_Next_J2_eq,i0,ca,wm,w01,i1,cb,wa,d3,R17_Next_J3_eq,w6,d4]
   ·have d4:decide ((G.length:Int) < ((z+6:Nat):Int))=false:=by rw [decide_eq_false_iff_not];omega
    rw [if_neg h4]
    have w02:IntKind.i64.wrap (0+2)=2:=rfl
    have w06:IntKind.i64.wrap (0+6)=6:=rfl
    have w2z:IntKind.i64.wrap (2+(z:Int))=((z+2:Nat):Int):=by rw [wrap64 (by omega) (by omega)];omega
    have w6z:IntKind.i64.wrap (6+(z:Int))=((z+6:Nat):Int):=by rw [wrap64 (by omega) (by omega)];omega
    have sl:∀ n:Nat,n≤G.length→asliceS (.str G) (some (.int .i64 0)) (some (.int .i64 (n:Int))) none=some (.str (G.take n)):=fun n hn=>by
     have:=asliceS_lh (s:=G) (n:=0) (m:=(n:Int)) .i64 .i64 (by omega) (by omega) (by omega)
     rw [this]
     simp
    have s1:=sl (z+2) (by omega)
    have s2:=sl (z+6) (by omega)
    have s3:asliceS (.str G) (some (.int .i64 2)) (some (.int .i64 ((z+2:Nat):Int))) none=some (.str ((G.take (z+2)).drop 2)):=by
     have:=asliceS_lh (s:=G) (n:=2) (m:=((z+2:Nat):Int)) .i64 .i64 (by omega) (by omega) (by omega)
     rw [this,Int.toNat_natCast]
     rfl
    obtain ⟨H',hse⟩:=rseal_run (G.take (z+2)) (by rw [List.length_take];omega) []
    have hsp:G.take (z+6)=G.take (z+2)++(G.take (z+6)).drop (z+2):=by
     have:=(List.take_append_drop (z+2) (G.take (z+6))).symm
     rwa [List.take_take,show min (z+2) (z+6)=z+2 by omega] at this
    have hcmp:(!(G.take (z+2)++sumS (G.take (z+2)) == G.take (z+6)))=!((G.take (z+6)).drop (z+2) == sumS (G.take (z+2))):=by
     congr 1
     rw [Bool.eq_iff_iff,beq_iff_eq,beq_iff_eq]
     constructor
     ·intro e
      rw [hsp] at e
      exact (List.append_cancel_left e).symm
     ·intro e
      conv=>rhs;rw [hsp,e]
    have hne:sbin .neq (.str (G.take (z+2)++sumS (G.take (z+2)))) (.str (G.take (z+6)))=some (.bool (!((G.take (z+6)).drop (z+2) == sumS (G.take (z+2))))):=by
     rw [← hcmp];rfl
    cases hq:((G.take (z+6)).drop (z+2) == sumS (G.take (z+2))) with
    | false =>
     rw [hq] at hne
     rw [if_neg (by simp)]
     refine flat2 (a':=.str G) (b':=.int .i64 0) rfl rfl (H1:=H') ?_ rfl
     rw [F_R17_Next_eq]
     unfold F_R17_Next
     simp only [go_sem,h0,hal,h1,R17_Next_J1_eq,hw,d2,R17_Next_J2_eq,i0,ca,wm,w01,i1,cb,wa,d3,R17_Next_J3_eq,w6,d4,R17_Next_J4_eq,w02,w2z,s1,hse,w06,w6z,s2,hne,Bool.not_false]
    | true =>
     rw [hq] at hne
     rw [if_pos rfl]
     refine flat2 (a':=.str G) (b':=.int .i64 0) rfl rfl (H1:=H') ?_ rfl
     rw [F_R17_Next_eq]
     unfold F_R17_Next
     simp only [go_sem,h0,hal,h1,R17_Next_J1_eq,hw,d2,R17_Next_J2_eq,i0,ca,wm,w01,i1,cb,wa,d3,R17_Next_J3_eq,w6,d4,R17_Next_J4_eq,w02,w2z,s1,hse,w06,w6z,s2,hne,Bool.not_true,R17_Next_J5_eq,s3]
     rfl
end Go.Am
namespace Go.Am
set_option linter.unusedSimpArgs false
set_option linter.unusedVariables false
set_option linter.unusedSectionVars false
set_option maxRecDepth 100000

theorem nilY (y:Nat):∀ u,ebin (.pointer u) .eql (.ptr y 0) .nilp=some (.bool false):=fun _=>rfl
theorem rown_run {H:Hp} {y r:Nat} {nx sx:AV} {tm:Tmp} (h:RTAt H y r nx sx tm) (hm:TmpOk tm) (n:Txt):C_R19_Temps_own [.ptr y 0,.str n] H=some (.int .i64 (tmFind tm n),H):=by
 have l6:=ldn h.cells 6 (v:=.bool tm.closed) rfl
 have l4:=ldn h.cells 4 (v:=nx) rfl
 have hkl:=hm.len
 have hkt:=hm.last
 have hcon:=rhas_flat h.names.ss (by omega) n H
 rw [F_R19_Temps_own_eq]
 unfold F_R19_Temps_own tmFind
 cases hc:tm.closed with
 | true =>
  rw [hc] at l6
  simp only [nilY,go_sem,R19_Temps_own_J1_eq,Nat.zero_add,l6,if_true]
 | false =>
  rw [hc] at l6
  by_cases hn:n ∈ tm.names
  ·rw [decide_eq_true hn] at hcon
   simp only [nilY,go_sem,R19_Temps_own_J1_eq,Nat.zero_add,l6,R19_Temps_own_J2_eq,l4,hcon,Bool.not_true,R19_Temps_own_J3_eq,if_pos hn,Bool.false_eq_true,if_false]
  ·rw [decide_eq_false hn] at hcon
   simp only [nilY,go_sem,R19_Temps_own_J1_eq,Nat.zero_add,l6,R19_Temps_own_J2_eq,l4,hcon,Bool.not_false,if_neg hn,Bool.false_eq_true,if_false]
theorem RTAt.put {H : Hp} {y r : Nat} {nx sx : AV} {tm : Tmp} {l : List AV} (hy : H[y]? = some (.cells l)) (hn : NmAt H nx tm.names) (hs : NmAt H sx tm.sld) (hnd : (y :: (tokA nx ++ tokA sx)).Nodup) :
    RTAt (H.set y (.cells (rtC r nx sx tm))) y r nx sx tm:=by
 rw [List.nodup_cons] at hnd
 have hne:∀ a ∈ tokA nx++tokA sx,y ≠ a:=fun a ha e=>hnd.1 (by rw [e];exact ha)
 exact ⟨get_set_eq _ hy,hn.frame fun a ha=>List.getElem?_set_ne (hne a (by simp [ha])),hs.frame fun a ha=>List.getElem?_set_ne (hne a (by simp [ha])),List.nodup_cons.2 hnd⟩
theorem rTNew_run {H : Hp} {y r : Nat} {tm : Tmp} {s : Sto} {A : List Nat} (h : RSysAt H y r tm s A) (hm : TmpOk tm) (hk : ROk s) (hl : tm.last < 1000000) :
    ∃ H' A',C_R19_Temps_New [.ptr y 0] H=some (.tuple [.str (tmNew tm s).1.1,.int .i64 (tmNew tm s).1.2],H')∧RSysRes H H' y r (tmNew tm s).2.1 (tmNew tm s).2.2 A A':=by
 have hsys:=h
 obtain ⟨nx,sx,R,h1,h2,h3,rfl⟩:=h
 have l6:=ldn h1.cells 6 (v:=.bool tm.closed) rfl
 have l0:=ldn h1.cells 0 (v:=.ptr r 0) rfl
 have l1:=ldn h1.cells 1 (v:=.str tm.owner) rfl
 have l3:=ldn h1.cells 3 (v:=.int .i64 (tm.last:Int)) rfl
 have ho:=hm.owner
 have hw:IntKind.i64.wrap ((tm.last:Int)+1)=((tm.last+1:Nat):Int):=by rw [wrap64 (by omega) (by omega)];omega
 obtain ⟨n1,n2⟩:=name_le tm.owner (tm.last+1) ho (by omega)
 have a1:sbin .add (.str [46,116,109,112,46]) (.str tm.owner)=some (.str ([46,116,109,112,46]++tm.owner)):=sbin_add (by simp;omega)
 have a2:sbin .add (.str ([46,116,109,112,46]++tm.owner)) (.str [46])=some (.str (ownS tm.owner)):=by rw [sbin_add (by simp;omega)];rfl
 have hit:=rformat_flat (tm.last+1) (by omega) (by omega) H
 have hadd:sbin .add (.str (ownS tm.owner)) (.str (Go.Lib.itoa ((tm.last+1:Nat):Int)))=some (.str (tmpName tm.owner (tm.last+1))):=by rw [sbin_add (by omega)];rfl
 obtain ⟨H1,R1,p1,p2⟩:=rCreate_run h2 hk (tmpName tm.owner (tm.last+1)) n1
 rw [F_R19_Temps_New_eq]
 unfold F_R19_Temps_New tmNew
 by_cases hc:tm.closed=true
 ·rw [hc] at l6
  rw [if_pos hc]
  exact ⟨H,_,by simp only [nilY,go_sem,Nat.zero_add,R19_Temps_New_J1_eq,l6],hsys.self⟩
 ·rw [Bool.not_eq_true] at hc
  rw [hc] at l6
  rw [if_neg (by simp [hc])]
  cases hcr:s.create (tmpName tm.owner (tm.last+1)) with
  | mk e s' =>
  rw [hcr] at p1 p2
  simp only at p1 p2 ⊢
  by_cases he:e=0
  ·subst he
   rw [if_pos rfl]
   have hne:((0:Int) != 0)=false:=rfl
   have hT:=h1.frame (H':=H1) fun a ha=>p2.stp.at' a (h1.lt a ha) (h3 a ha)
   have k3:=ldn hT.cells 3 (v:=.int .i64 (tm.last:Int)) rfl
   have s3:=stn hT.cells 3 (v:=.int .i64 ((tm.last+1:Nat):Int)) rfl rfl (by simp [rtC])
   have g1:=get_set_eq (AObj.cells (List.set (rtC r nx sx tm) 3 (.int .i64 ((tm.last+1:Nat):Int)))) hT.cells
   have k4:=ldn g1 4 (v:=nx) rfl
   have hnd:=hT.nd
   have hnd2:=List.nodup_cons.1 hnd
   have hny:∀ a ∈ tokA nx++tokA sx,a ≠ y:=fun a ha e=>hnd2.1 (by rw [← e];exact ha)
   have hylt:y < H1.length:=lt_of_get hT.cells
   generalize hH2:H1.set y (.cells (List.set (rtC r nx sx tm) 3 (.int .i64 ((tm.last+1:Nat):Int))))=H2 at s3 g1 k4
   have hlen2:H2.length=H1.length:=by rw [← hH2];simp
   have fr:∀ a ∈ tokA nx++tokA sx,H2[a]?=H1[a]?:=fun a ha=>by rw [← hH2];exact List.getElem?_set_ne (fun e=>hny a ha e.symm)
   have hN2:NmAt H2 nx tm.names:=hT.names.frame fun a ha=>fr a (by simp [ha])
   have hS2:NmAt H2 sx tm.sld:=hT.sld.frame fun a ha=>fr a (by simp [ha])
   have hkl:=hm.len
   obtain ⟨x',H3,q1,q2,q3,q4,q5,q6,q7⟩:=hN2.app (tmpName tm.owner (tm.last+1)) (by omega)
   have hdj:∀ a ∈ tokA sx,a ∉ tokA nx:=fun a ha hb=>(List.nodup_append.1 hnd2.2).2.2 a hb a ha rfl
   have hS3:NmAt H3 sx tm.sld:=hS2.frame fun a ha=>q3.at' a (by rw [hlen2];exact hT.lt a (by simp [ha])) (hdj a ha)
   have g2:H3[y]?=some (.cells (List.set (rtC r nx sx tm) 3 (.int .i64 ((tm.last+1:Nat):Int)))):=q3.get g1 fun ha=>hny y (by simp [ha]) rfl
   have s4:=stn g2 4 (v:=x') q5 q6 (by simp [rtC])
   have hx':∀ a ∈ tokA x',a ∈ tokA nx ∨ a=H1.length:=fun a ha=>by
    rcases q4 a ha with k | k
    ·exact .inl k
    ·exact .inr (by omega)
   have hnd4:(y :: (tokA x'++tokA sx)).Nodup:=by
    rw [List.nodup_cons,List.nodup_append]
    refine ⟨fun ha=>?_,q7,(List.nodup_append.1 hnd2.2).2.1,fun a ha b hb e=>?_⟩
    ·rcases List.mem_append.1 ha with k | k
     ·rcases hx' y k with k | k
      ·exact hny y (by simp [k]) rfl
      ·omega
     ·exact hny y (by simp [k]) rfl
    ·subst e
     rcases hx' a ha with k | k
     ·exact hdj a hb k
     ·have:=hT.lt a (by simp [hb]);omega
   have hfin:=RTAt.put (r:=r) (tm:={ tm with last:=tm.last+1,names:=tm.names++[tmpName tm.owner (tm.last+1)] }) g2 q2 hS3 hnd4
   have hcell:List.set (List.set (rtC r nx sx tm) 3 (.int .i64 ((tm.last+1:Nat):Int))) 4 x'=rtC r x' sx { tm with last:=tm.last+1,names:=tm.names++[tmpName tm.owner (tm.last+1)] }:=rfl
   have hS:Stp (y :: (tokA nx++tokA sx)) H1 (H3.set y (.cells (rtC r x' sx { tm with last:=tm.last+1,names:=tm.names++[tmpName tm.owner (tm.last+1)] }))):=by
    have e1:Stp (y :: (tokA nx++tokA sx)) H1 H2:=by rw [← hH2];exact Stp.set _ _ (by simp)
    have e2:Stp (y :: (tokA nx++tokA sx)) H1 H3:=e1.trans (q3.mono (B:=y :: (tokA nx++tokA sx)) fun a ha=>by simp [ha]) (fun _ h=>h) fun _ h=>.inl h
    exact e2.trans (Stp.set (A:=y :: (tokA nx++tokA sx)) _ _ (by simp)) (fun _ h=>h) fun _ h=>.inl h
   refine ⟨_,_,?_,rsys_mk h1 h3 p2 hfin hS fun a ha=>?_⟩
   ·rw [hcell] at s4
    simp only [nilY,go_sem,Nat.zero_add,R19_Temps_New_J1_eq,l6,R19_Temps_New_J2_eq,l1,a1,a2,l3,hw,hit,hadd,l0,p1,hne,R19_Temps_New_J3_eq,k3,s3,k4,one_str,q1,s4]
   ·rcases List.mem_append.1 ha with k | k
    ·rcases hx' a k with k | k
     ·exact .inl (by simp [k])
     ·exact .inr (by omega)
    ·exact .inl (by simp [k])
  ·rw [if_neg he]
   have hne:(e != 0)=true:=by simpa using he
   exact ⟨H1,_,by simp only [nilY,go_sem,Nat.zero_add,R19_Temps_New_J1_eq,l6,R19_Temps_New_J2_eq,l1,a1,a2,l3,hw,hit,hadd,l0,p1,hne],rsys_sto h1 h3 p2⟩
theorem rTused_loop {H : Hp} {y r : Nat} {nx sx : AV} {tm : Tmp} (h : RTAt H y r nx sx tm) (hm : TmpOk tm) {x : AV} {fs : List Fil} (hx : Sl 3 x (fs.map filAV)) (hl : fs.length ≤ 64) (hu : usedL fs ≤ 262144) (HB : Hp) : ∀ (q d : List Fil), fs = d ++ q →
    R19_Temps_Used_L1 (.ptr y 0) (.int .i64 (usedN tm.names d:Int)) x (.int .i64 (d.length:Int)) HB H=some (.int .i64 (usedN tm.names fs:Int),H):=by
 have hxl:∀ t,alenD (.slice t) x=some (.int .i64 (fs.length:Int)):=fun t=>by have:=Sl.len hx t;rwa [List.length_map] at this
 have l4:=ldn h.cells 4 (v:=nx) rfl
 have hkl:=hm.len
 have hkt:=hm.last
 have hle:=usedN_le tm.names fs
 intro q
 induction q with
 | nil =>
  intro d hd
  rw [List.append_nil] at hd
  subst hd
  have hlt:decide ((fs.length:Int) < (fs.length:Int))=false:=by simp
  rw [R19_Temps_Used_L1_eq]
  simp only [go_sem,hxl,hlt,R19_Temps_Used_J2_eq]
 | cons f q ih =>
  intro d hd
  have hlen:fs.length=d.length+(q.length+1):=by rw [hd];simp
  have hlt:decide ((d.length:Int) < (fs.length:Int))=true:=by simp;omega
  have hw1:IntKind.i64.wrap ((d.length:Int)+1)=((d.length+1:Nat):Int):=by rw [wrap64 (by omega) (by omega)];omega
  have hi:fs[d.length]?=some f:=by rw [hd,List.getElem?_append_right (Nat.le_refl _)];simp
  have hidx:aindexS 3 x (.int .i64 (d.length:Int))=some (.vp (filAV f).cells):=Sl.idx hx (c:=filAV f) (by simp [hi])
  have haf0:afield 0 (.vp (filAV f).cells)=some (.vp (filAV f).cells):=rfl
  have hld0:aload false 1 (.vp (filAV f).cells) H=some (.str f.name):=rfl
  have haf:afield 1 (.vp (filAV f).cells)=some (.vp [.int .i64 (f.text.length:Int),.int .i64 (f.syn:Int)]):=rfl
  have hld:aload false 1 (.vp [.int .i64 (f.text.length:Int),.int .i64 (f.syn:Int)]) H=some (.int .i64 (f.text.length:Int)):=rfl
  have hcon:=rhas_flat h.names.ss (by omega) f.name H
  have hsum:usedN tm.names (d++[f])=usedN tm.names d+(if f.name ∈ tm.names then f.text.length else 0):=by rw [usedN_app];simp [usedN]
  have hus:usedN tm.names fs=usedN tm.names d+((if f.name ∈ tm.names then f.text.length else 0)+usedN tm.names q):=by rw [hd,usedN_app];rfl
  have k:=ih (d++[f]) (by rw [hd];simp)
  rw [List.length_append,List.length_singleton,hsum] at k
  rw [R19_Temps_Used_L1_eq]
  by_cases hn:f.name ∈ tm.names
  ·rw [decide_eq_true hn] at hcon
   rw [if_pos hn] at k hus
   have hwa:IntKind.i64.wrap ((usedN tm.names d:Int)+(f.text.length:Int))=((usedN tm.names d+f.text.length:Nat):Int):=by rw [wrap64 (by omega) (by omega)];omega
   simp only [go_sem,hxl,hlt,R19_Temps_Used_J3_eq,Nat.zero_add,l4,hidx,haf0,hld0,hcon,haf,hld,hwa,R19_Temps_Used_J4_eq,hw1]
   exact k
  ·rw [decide_eq_false hn] at hcon
   rw [if_neg hn,Nat.add_zero] at k
   simp only [go_sem,hxl,hlt,R19_Temps_Used_J3_eq,Nat.zero_add,l4,hidx,haf0,hld0,hcon,R19_Temps_Used_J4_eq,hw1]
   exact k
theorem rTUsed_ro {H : Hp} {y r : Nat} {tm : Tmp} {s : Sto} {A : List Nat} (h : RSysAt H y r tm s A) (hm : TmpOk tm) (hk : ROk s) :
    roC C_R19_Temps_Used [.ptr y 0] H=some (.int .i64 (if tm.closed then 0 else (tmUsed tm s:Int)),H):=by
 obtain ⟨nx,sx,R,h1,h2,h3,rfl⟩:=h
 have l6:=ldn h1.cells 6 (v:=.bool tm.closed) rfl
 have l0:=ldn h1.cells 0 (v:=.ptr r 0) rfl
 obtain ⟨x,q1,q2⟩:=rList_ro h2 hk
 have hu:=listF_used hk.nd
 have hs:=hk.sto.used
 have hl:=hk.sto.limit
 refine roC_of (H1:=H) (v:=.int .i64 (if tm.closed then 0 else (tmUsed tm s:Int))) ?_ (Keep.refl _ _) (Nat.le_refl _) rfl
 rw [F_R19_Temps_Used_eq]
 unfold F_R19_Temps_Used
 cases hc:tm.closed with
 | true =>
  rw [hc] at l6
  simp only [nilY,go_sem,Nat.zero_add,l6,if_true]
 | false =>
  rw [hc] at l6
  have:=rTused_loop h1 hm q2 hk.len (by omega) H (listF s.files) [] rfl
  rw [usedN_perm tm.names (listF_perm hk.nd)] at this
  simp only [nilY,go_sem,Nat.zero_add,l6,R19_Temps_Used_J1_eq,l0,q1,Bool.false_eq_true,if_false]
  exact this
theorem rTWrite_run {H : Hp} {y r : Nat} {tm : Tmp} {s : Sto} {A : List Nat} (h : RSysAt H y r tm s A) (hm : TmpOk tm) (hk : ROk s) (hsl : tm.sld.length ≤ 1048576) (n : Txt) {x : AV} {l : List Txt} (hx : SS x l) (hL : ∀ s ∈ l, s.length ≤ 1000000) (hl : costR l ≤ 1048576) :
    ∃ H' A',C_R19_Temps_Write [.ptr y 0,.str n,x] H=some (.int .i64 (tmWrite tm s n l).1,H')∧RSysRes H H' y r tm (tmWrite tm s n l).2 A A':=by
 have hsys:=h
 have hus:=rTUsed_ro h hm hk
 obtain ⟨nx,sx,R,h1,h2,h3,rfl⟩:=h
 have hf:=rown_run h1 hm n
 have l5:=ldn h1.cells 5 (v:=sx) rfl
 have l0:=ldn h1.cells 0 (v:=.ptr r 0) rfl
 have l2:=ldn h1.cells 2 (v:=.int .i64 (tm.limit:Int)) rfl
 have hcon:=rhas_flat h1.sld.ss hsl n H
 have hen:=renc_flat hx hL hl H
 have hel:=encS_len l
 rw [F_R19_Temps_Write_eq]
 unfold F_R19_Temps_Write tmWrite
 by_cases hf0:tmFind tm n=0
 ·have e0:(tmFind tm n != 0)=false:=by rw [hf0];rfl
  have hcl:=(find_mem hf0).2
  rw [if_neg (by simp [hf0])]
  rw [hcl] at hus
  by_cases hs:n ∈ tm.sld
  ·rw [if_pos hs]
   rw [decide_eq_true hs] at hcon
   exact ⟨H,_,by simp only [hf,go_sem,e0,R19_Temps_Write_J1_eq,Nat.zero_add,l5,hcon],hsys.self⟩
  ·rw [if_neg hs]
   rw [decide_eq_false hs] at hcon
   cases hfit:fitsR l with
   | false =>
    rw [hfit] at hen
    have e3:((3:Int) != 0)=true:=rfl
    rw [if_pos rfl]
    rw [if_neg (by simp)] at hen
    exact ⟨H,_,by simp only [hf,go_sem,e0,R19_Temps_Write_J1_eq,Nat.zero_add,l5,hcon,R19_Temps_Write_J2_eq,hen,List.getElem?_cons_zero,List.getElem?_cons_succ,e3],hsys.self⟩
   | true =>
    rw [hfit] at hen
    rw [if_pos rfl] at hen
    rw [if_neg (by simp)]
    have e0':((0:Int) != 0)=false:=rfl
    have hal:alenD .string (.str (encS l))=some (.int .i64 ((costR l:Nat):Int)):=by rw [← hel];rfl
    have hlm:=hm.limit
    have hui:=usedN_le tm.names s.files
    have hu2:=hk.sto.used
    have hu3:=hk.sto.limit
    have hw:IntKind.i64.wrap ((tm.limit:Int) - (tmUsed tm s:Int))=(tm.limit:Int) - (tmUsed tm s:Int):=by unfold tmUsed;rw [wrap64 (by omega) (by omega)]
    rw [if_neg (by simp)] at hus
    by_cases hb:(tm.limit:Int) - (tmUsed tm s:Int) < (costR l:Int)
    ·rw [if_pos hb]
     exact ⟨H,_,by simp only [hf,go_sem,e0,R19_Temps_Write_J1_eq,Nat.zero_add,l5,hcon,R19_Temps_Write_J2_eq,hen,List.getElem?_cons_zero,List.getElem?_cons_succ,e0',R19_Temps_Write_J3_eq,hal,l2,hus,hw,decide_eq_true hb],hsys.self⟩
    ·rw [if_neg hb]
     obtain ⟨H1,R1,p1,p2⟩:=rAppend_run h2 hk n (encS l) (by omega)
     exact ⟨H1,_,by simp only [hf,go_sem,e0,R19_Temps_Write_J1_eq,Nat.zero_add,l5,hcon,R19_Temps_Write_J2_eq,hen,List.getElem?_cons_zero,List.getElem?_cons_succ,e0',R19_Temps_Write_J3_eq,hal,l2,hus,hw,decide_eq_false hb,R19_Temps_Write_J4_eq,l0,p1],rsys_sto h1 h3 p2⟩
 ·have e0:(tmFind tm n != 0)=true:=by simpa using hf0
  rw [if_pos hf0]
  exact ⟨H,_,by simp only [hf,go_sem,e0],hsys.self⟩
def rSealT (tm:Tmp) (s:Sto) (n:Txt):Tmp:=if tmFind tm n ≠ 0 then tm else if (s.sync n).1 ≠ 0 then tm else { tm with sld:=keptL n tm.sld++[n] }
theorem rTSeal_run {H : Hp} {y r : Nat} {tm : Tmp} {s : Sto} {A : List Nat} (h : RSysAt H y r tm s A) (hm : TmpOk tm) (hk : ROk s) (hsl : tm.sld.length ≤ 1048575) (n : Txt) :
    ∃ H' A',C_R19_Temps_Seal [.ptr y 0,.str n] H=some (.int .i64 (tmSeal tm s n).1,H')∧RSysRes H H' y r (rSealT tm s n) (tmSeal tm s n).2.2 A A':=by
 have hsys:=h
 obtain ⟨nx,sx,R,h1,h2,h3,rfl⟩:=h
 have hf:=rown_run h1 hm n
 have l0:=ldn h1.cells 0 (v:=.ptr r 0) rfl
 obtain ⟨H1,R1,p1,p2⟩:=rSync_run h2 hk n
 rw [F_R19_Temps_Seal_eq]
 unfold F_R19_Temps_Seal tmSeal rSealT
 by_cases hf0:tmFind tm n=0
 ·have e0:(tmFind tm n != 0)=false:=by rw [hf0];rfl
  have hh:¬ (tmFind tm n ≠ 0):=by simp [hf0]
  rw [if_neg hh,if_neg hh]
  by_cases hs0:(s.sync n).1=0
  ·have e1:((s.sync n).1 != 0)=false:=by rw [hs0];rfl
   have hh2:¬ ((s.sync n).1 ≠ 0):=by simp [hs0]
   rw [if_neg hh2,if_neg hh2]
   have hT:=h1.frame (H':=H1) fun a ha=>p2.stp.at' a (h1.lt a ha) (h3 a ha)
   have k5:=ldn hT.cells 5 (v:=sx) rfl
   obtain ⟨x1,H2,w1,w2,w3,w4,w5,w6,w7⟩:=rwithout_run hT.sld.ss (by omega) n H1
   have hkl:(keptL n tm.sld).length≤tm.sld.length:=List.length_filter_le _ _
   obtain ⟨x2,H3,q1,q2,q3,q4,q5,q6,q7⟩:=w2.app n (by omega)
   have hl2:=w3.len
   have hx2:∀ a ∈ tokA x2,H1.length≤a:=fun a ha=>by
    rcases q4 a ha with k | k
    ·exact w4 a k
    ·omega
   have hnd:=hT.nd
   have hnd2:=List.nodup_cons.1 hnd
   have hylt:y < H1.length:=lt_of_get hT.cells
   have g2:H2[y]?=some (.cells (rtC r nx sx tm)):=w3.get hT.cells (by simp)
   have g3:H3[y]?=some (.cells (rtC r nx sx tm)):=q3.get g2 fun ha=>by have:=w4 y ha;omega
   have hN3:NmAt H3 nx tm.names:=(hT.names.frame fun a ha=>w3.at' a (hT.lt a (by simp [ha])) (by simp)).frame fun a ha=>q3.at' a (by have:=hT.lt a (by simp [ha]);omega) fun k=>by have:=w4 a k;have:=hT.lt a (by simp [ha]);omega
   have s5:=stn g3 5 (v:=x2) q5 q6 (by simp [rtC])
   have hnd4:(y :: (tokA nx++tokA x2)).Nodup:=by
    rw [List.nodup_cons,List.nodup_append]
    refine ⟨fun ha=>?_,(List.nodup_append.1 hnd2.2).1,q7,fun a ha b hb e=>?_⟩
    ·rcases List.mem_append.1 ha with k | k
     ·exact hnd2.1 (by simp [k])
     ·have:=hx2 y k;omega
    ·subst e
     have:=hx2 a hb
     have:=hT.lt a (by simp [ha])
     omega
   have hfin:=RTAt.put (r:=r) (tm:={ tm with sld:=keptL n tm.sld++[n] }) g3 hN3 q2 hnd4
   have hcell:List.set (rtC r nx sx tm) 5 x2=rtC r nx x2 { tm with sld:=keptL n tm.sld++[n] }:=rfl
   rw [hcell] at s5
   have hS:Stp (y :: (tokA nx++tokA sx)) H1 (H3.set y (.cells (rtC r nx x2 { tm with sld:=keptL n tm.sld++[n] }))):=by
    have e2:Stp (y :: (tokA nx++tokA sx)) H1 H3:=(w3.mono fun a ha=>by cases ha).trans q3 (fun _ h=>h) fun a ha=>.inr (w4 a ha)
    exact e2.trans (Stp.set (A:=y :: (tokA nx++tokA sx)) _ _ (by simp)) (fun _ h=>h) fun _ h=>.inl h
   refine ⟨_,_,?_,rsys_mk h1 h3 p2 hfin hS fun a ha=>?_⟩
   ·rw [hs0] at p1 e1
    simp only [hf,go_sem,e0,R19_Temps_Seal_J1_eq,Nat.zero_add,l0,p1,e1,R19_Temps_Seal_J2_eq,k5,w1,one_str,q1,s5]
   ·rcases List.mem_append.1 ha with k | k
    ·exact .inl (by simp [k])
    ·exact .inr (hx2 a k)
  ·have e1:((s.sync n).1 != 0)=true:=by simpa using hs0
   rw [if_pos hs0,if_pos hs0]
   exact ⟨H1,_,by simp only [hf,go_sem,e0,R19_Temps_Seal_J1_eq,Nat.zero_add,l0,p1,e1],rsys_sto h1 h3 p2⟩
 ·have e0:(tmFind tm n != 0)=true:=by simpa using hf0
  rw [if_pos hf0,if_pos hf0]
  exact ⟨H,_,by simp only [hf,go_sem,e0],hsys.self⟩
theorem read_le {s:Sto} (hk:ROk s) (n:Txt) (i k:Int):(s.read n i k).1.length≤262144:=by
 unfold Sto.read
 split
 ·simp
 ·split
  ·simp
  ·rename_i f hg
   split
   ·simp
   ·have hus:=hk.sto.used
    have hlim:=hk.sto.limit
    obtain ⟨a,b,e',_⟩:=getF_split hg
    rw [e',usedL_mid] at hus
    simp only [List.length_take,List.length_drop]
    omega
theorem read_range {s:Sto} (hk:ROk s) (n:Txt) (i k:Int) (h:(s.read n i k).2=0):0≤i∧i≤262144:=by
 unfold Sto.read at h
 split at h
 ·cases h
 ·split at h
  ·cases h
  ·rename_i f hg
   split at h
   ·cases h
   ·rename_i hc
    have hus:=hk.sto.used
    have hlim:=hk.sto.limit
    obtain ⟨a,b,e',_⟩:=getF_split hg
    rw [e',usedL_mid] at hus
    omega
theorem rTRead_run {H : Hp} {y r : Nat} {tm : Tmp} {s : Sto} {A : List Nat} (h : RSysAt H y r tm s A) (hm : TmpOk tm) (hk : ROk s) (n : Txt) (i : Int) (hi : -9223372036854775808 ≤ i ∧ i ≤ 9223372036854775807) :
    ∃ H' A',C_R19_Temps_Read [.ptr y 0,.str n,.int .i64 i] H=some (.tuple [.str (tmRead tm s n i).1,.int .i64 (tmRead tm s n i).2.1,.int .i64 (tmRead tm s n i).2.2],H')∧RSysRes H H' y r tm (if tmFind tm n=0 then s.tick else s) A A':=by
 have hsys:=h
 obtain ⟨nx,sx,R,h1,h2,h3,rfl⟩:=h
 have hf:=rown_run h1 hm n
 have l0:=ldn h1.cells 0 (v:=.ptr r 0) rfl
 obtain ⟨H1,p1,p2⟩:=rRead_run h2 hk n i 4102 hi (by omega)
 rw [F_R19_Temps_Read_eq]
 unfold F_R19_Temps_Read tmRead
 by_cases hf0:tmFind tm n=0
 ·have e0:(tmFind tm n != 0)=false:=by rw [hf0];rfl
  rw [if_neg (by simp [hf0]),if_pos hf0]
  by_cases hr0:(s.read n i 4102).2=0
  ·have e1:((s.read n i 4102).2 != 0)=false:=by rw [hr0];rfl
   rw [if_neg (by simp [hr0])]
   have hse:sbin .eql (.str (s.read n i 4102).1) (.str [])=some (.bool ((s.read n i 4102).1 == [])):=rfl
   by_cases hem:(s.read n i 4102).1=[]
   ·have e2:((s.read n i 4102).1 == [])=true:=by rw [hem];rfl
    rw [if_pos hem]
    exact ⟨H1,_,by simp only [hf,go_sem,e0,R19_Temps_Read_J1_eq,Nat.zero_add,l0,p1,List.getElem?_cons_zero,List.getElem?_cons_succ,e1,R19_Temps_Read_J2_eq,hse,e2],rsys_sto h1 h3 p2⟩
   ·have e2:((s.read n i 4102).1 == [])=false:=by simpa using hem
    rw [if_neg hem]
    have hnx:=rnext_flat (s.read n i 4102).1 (by have:=read_le hk n i 4102;omega) H1
    by_cases hn0:(nextV (s.read n i 4102).1).2.2=0
    ·have e3:((nextV (s.read n i 4102).1).2.2 != 0)=false:=by rw [hn0];rfl
     rw [if_neg (by simp [hn0])]
     have hrg:=nextV_range (s.read n i 4102).1
     obtain ⟨hi0,hib⟩:=read_range hk n i 4102 hr0
     have hw:IntKind.i64.wrap (i+(nextV (s.read n i 4102).1).2.1)=i+(nextV (s.read n i 4102).1).2.1:=wrap64 (by omega) (by omega)
     exact ⟨H1,_,by simp only [hf,go_sem,e0,R19_Temps_Read_J1_eq,Nat.zero_add,l0,p1,List.getElem?_cons_zero,List.getElem?_cons_succ,e1,R19_Temps_Read_J2_eq,hse,e2,R19_Temps_Read_J3_eq,hnx,e3,R19_Temps_Read_J4_eq,hw],rsys_sto h1 h3 p2⟩
    ·have e3:((nextV (s.read n i 4102).1).2.2 != 0)=true:=by simpa using hn0
     rw [if_pos hn0]
     exact ⟨H1,_,by simp only [hf,go_sem,e0,R19_Temps_Read_J1_eq,Nat.zero_add,l0,p1,List.getElem?_cons_zero,List.getElem?_cons_succ,e1,R19_Temps_Read_J2_eq,hse,e2,R19_Temps_Read_J3_eq,hnx,e3],rsys_sto h1 h3 p2⟩
  ·have e1:((s.read n i 4102).2 != 0)=true:=by simpa using hr0
   rw [if_pos hr0]
   exact ⟨H1,_,by simp only [hf,go_sem,e0,R19_Temps_Read_J1_eq,Nat.zero_add,l0,p1,List.getElem?_cons_zero,List.getElem?_cons_succ,e1],rsys_sto h1 h3 p2⟩
 ·have e0:(tmFind tm n != 0)=true:=by simpa using hf0
  rw [if_pos hf0,if_neg hf0]
  exact ⟨H,_,by simp only [hf,go_sem,e0],hsys.self⟩
theorem rkeep_sys {H H1 : Hp} {y r : Nat} {nx sx : AV} {tm : Tmp} {s' : Sto} {R R1 : List Nat} (h1 : RTAt H y r nx sx tm) (h3 : ∀ a ∈ y :: (tokA nx ++ tokA sx), a ∉ R) (hm : TmpOk tm) (p2 : RefRes H H1 r s' R R1) (n : Txt) :
    ∃ x1 H2 H3 A',C_R19_without [nx,.str n] H1=some (x1,H2)∧astoreU 1 (.ptr y 4) x1 H2=some (.tuple [],H3)∧RSysRes H H3 y r { tm with names:=keptL n tm.names } s' ((y :: (tokA nx++tokA sx))++R) A':=by
 have hkl:=hm.len
 have hkt:=hm.last
 have hT:=h1.frame (H':=H1) fun a ha=>p2.stp.at' a (h1.lt a ha) (h3 a ha)
 obtain ⟨x1,H2,w1,w2,w3,w4,w5,w6,w7⟩:=rwithout_run hT.names.ss (by omega) n H1
 have hnd2:=List.nodup_cons.1 hT.nd
 have hylt:y < H1.length:=lt_of_get hT.cells
 have g2:H2[y]?=some (.cells (rtC r nx sx tm)):=w3.get hT.cells (by simp)
 have hS2:NmAt H2 sx tm.sld:=hT.sld.frame fun a ha=>w3.at' a (hT.lt a (by simp [ha])) (by simp)
 have s4:=stn g2 4 (v:=x1) w5 w6 (by simp [rtC])
 have hnd4:(y :: (tokA x1++tokA sx)).Nodup:=by
  rw [List.nodup_cons,List.nodup_append]
  refine ⟨fun ha=>?_,w7,(List.nodup_append.1 hnd2.2).2.1,fun a ha b hb e=>?_⟩
  ·rcases List.mem_append.1 ha with k | k
   ·have:=w4 y k;omega
   ·exact hnd2.1 (by simp [k])
  ·subst e
   have:=w4 a ha
   have:=hT.lt a (by simp [hb])
   omega
 have hfin:=RTAt.put (r:=r) (tm:={ tm with names:=keptL n tm.names }) g2 w2 hS2 hnd4
 have hcell:List.set (rtC r nx sx tm) 4 x1=rtC r x1 sx { tm with names:=keptL n tm.names }:=rfl
 rw [hcell] at s4
 have hS:Stp (y :: (tokA nx++tokA sx)) H1 (H2.set y (.cells (rtC r x1 sx { tm with names:=keptL n tm.names }))) :=
  (w3.mono (B:=y :: (tokA nx++tokA sx)) fun a ha=>by cases ha).trans (Stp.set (A:=y :: (tokA nx++tokA sx)) _ _ (by simp)) (fun _ h=>h) fun _ h=>.inl h
 exact ⟨x1,H2,_,_,w1,s4,rsys_mk h1 h3 p2 hfin hS fun a ha=>by
  rcases List.mem_append.1 ha with k | k
  ·exact .inr (w4 a k)
  ·exact .inl (by simp [k])⟩
theorem rTRemove_run {H : Hp} {y r : Nat} {tm : Tmp} {s : Sto} {A : List Nat} (h : RSysAt H y r tm s A) (hm : TmpOk tm) (hk : ROk s) (n : Txt) :
    ∃ H' A',C_R19_Temps_Remove [.ptr y 0,.str n] H=some (.int .i64 (gRemove tm s n).1,H')∧RSysRes H H' y r (gRemove tm s n).2.1 (gRemove tm s n).2.2 A A':=by
 have hsys:=h
 obtain ⟨nx,sx,R,h1,h2,h3,rfl⟩:=h
 have hf:=rown_run h1 hm n
 have l0:=ldn h1.cells 0 (v:=.ptr r 0) rfl
 obtain ⟨H1,R1,p1,p2⟩:=rRemove_run h2 hk n
 rw [F_R19_Temps_Remove_eq]
 unfold F_R19_Temps_Remove gRemove
 dsimp only
 by_cases hf0:tmFind tm n=0
 ·have e0:(tmFind tm n != 0)=false:=by rw [hf0];rfl
  have he:rmErr tm s n=(s.remove n).1:=by unfold rmErr;rw [if_neg (by simp [hf0])]
  have hs':rmSto tm s n=(s.remove n).2:=by unfold rmSto;rw [if_neg (by simp [hf0])]
  rw [he,hs']
  by_cases hr0:(s.remove n).1=0
  ·have e1:((s.remove n).1 != 0)=false:=by rw [hr0];rfl
   rw [if_pos hr0]
   obtain ⟨x1,H2,H3,A',k1,k2,k3⟩:=rkeep_sys h1 h3 hm p2 n
   have hT:=h1.frame (H':=H1) fun a ha=>p2.stp.at' a (h1.lt a ha) (h3 a ha)
   have k4:=ldn hT.cells 4 (v:=nx) rfl
   refine ⟨H3,A',?_,k3⟩
   rw [hr0] at p1 e1 ⊢
   simp only [hf,go_sem,e0,R19_Temps_Remove_J1_eq,Nat.zero_add,l0,p1,e1,R19_Temps_Remove_J2_eq,k4,k1,k2]
  ·have e1:((s.remove n).1 != 0)=true:=by simpa using hr0
   rw [if_neg hr0]
   exact ⟨H1,_,by simp only [hf,go_sem,e0,R19_Temps_Remove_J1_eq,Nat.zero_add,l0,p1,e1],rsys_sto h1 h3 p2⟩
 ·have e0:(tmFind tm n != 0)=true:=by simpa using hf0
  have he:rmErr tm s n=tmFind tm n:=by unfold rmErr;rw [if_pos hf0]
  have hs':rmSto tm s n=s:=by unfold rmSto;rw [if_pos hf0]
  rw [he,hs',if_neg hf0]
  exact ⟨H,_,by simp only [hf,go_sem,e0],hsys.self⟩
theorem rclose_loop {y r : Nat} (H0 : Hp) : ∀ (k : Nat) (tm : Tmp) (s : Sto) (A : List Nat) (H : Hp), tm.names.length = k → RSysAt H y r tm s A → TmpOk tm → ROk s → tm.names.Nodup → tm.closed = false →
    ∃ H' A',R19_Temps_Close_L1 (.ptr y 0) H0 H=some (.int .i64 (closeRm tm.names s).1,H')∧RSysRes H H' y r { tm with names:=(closeRm tm.names s).2.1,closed:=decide ((closeRm tm.names s).1=0) } (closeRm tm.names s).2.2 A A':=by
 intro k
 induction k with
 | zero =>
  intro tm s A H hn h hm hk hnd hcl
  have hn0:tm.names=[]:=List.length_eq_zero_iff.1 hn
  obtain ⟨nx,sx,R,h1,h2,h3,rfl⟩:=h
  have l4:=ldn h1.cells 4 (v:=nx) rfl
  have hln:=fun u=>SS.len h1.names.ss u
  have hlt:decide ((0:Int) < (tm.names.length:Int))=false:=by rw [hn0];rfl
  have s6:=stn h1.cells 6 (v:=.bool true) rfl rfl (by simp [rtC])
  have hst:(closeRm tm.names s).2.2=s:=by rw [hn0];rfl
  have her:(closeRm tm.names s).1=0:=by rw [hn0];rfl
  have hnn:(closeRm tm.names s).2.1=tm.names:=by rw [hn0];rfl
  rw [hst,her,hnn]
  have hfin:=RTAt.put (r:=r) (tm:={ tm with closed:=decide ((0:Int)=0) }) h1.cells h1.names h1.sld h1.nd
  have hcell:List.set (rtC r nx sx tm) 6 (.bool true)=rtC r nx sx { tm with closed:=decide ((0:Int)=0) }:=rfl
  rw [hcell] at s6
  refine ⟨_,_,?_,rsys_mk h1 h3 h2.self hfin (Stp.set _ _ (by simp)) fun a ha=>.inl ha⟩
  rw [R19_Temps_Close_L1_eq]
  simp only [go_sem,Nat.zero_add,l4,hln,hlt,R19_Temps_Close_J3_eq,s6]
 | succ k ih =>
  intro tm s A H hn h hm hk hnd hcl
  obtain ⟨n,ns,hnn⟩:∃ n ns,tm.names=n :: ns:=by
   cases hx:tm.names with
   | nil=>rw [hx] at hn;cases hn
   | cons n ns=>exact ⟨n,ns,rfl⟩
  obtain ⟨nx,sx,R,h1,h2,h3,rfl⟩:=h
  have l4:=ldn h1.cells 4 (v:=nx) rfl
  have l0:=ldn h1.cells 0 (v:=.ptr r 0) rfl
  have hln:=fun u=>SS.len h1.names.ss u
  have hi0:aindexS 1 nx (.int .i64 0)=some (.vp [.str n]):=SS.idx h1.names.ss (i:=0) (s:=n) (by rw [hnn];rfl)
  have hlt:decide ((0:Int) < (tm.names.length:Int))=true:=by rw [hn];simp
  obtain ⟨H1,R1,p1,p2⟩:=rRemove_run h2 hk n
  have hT:=h1.frame (H':=H1) fun a ha=>p2.stp.at' a (h1.lt a ha) (h3 a ha)
  have k4:=ldn hT.cells 4 (v:=nx) rfl
  rw [R19_Temps_Close_L1_eq]
  by_cases he:(s.remove n).1 ≠ 0∧(s.remove n).1 ≠ 5
  ·have hcr:closeRm tm.names s=((s.remove n).1,(n :: ns,(s.remove n).2)):=by rw [hnn,closeRm,if_pos he]
   have e0:((s.remove n).1 != 0)=true:=by simpa using he.1
   have e5:((s.remove n).1 != 5)=true:=by simpa using he.2
   rw [hcr]
   have:({ tm with names:=n :: ns,closed:=decide ((s.remove n).1=0) }:Tmp)=tm:=by
    cases tm
    simp only at hnn hcl
    simp [hnn,hcl,he.1]
   dsimp only
   rw [this]
   exact ⟨H1,_,by simp only [go_sem,Nat.zero_add,l4,hln,hlt,R19_Temps_Close_J4_eq,hi0,aload_vpc,l0,p1,e0,e5],rsys_sto h1 h3 p2⟩
  ·have hcr:closeRm tm.names s=closeRm ns (s.remove n).2:=by rw [hnn,closeRm,if_neg he]
   obtain ⟨x1,H2,H3,A',k1,k2,k3⟩:=rkeep_sys h1 h3 hm p2 n
   have hkn:keptL n tm.names=ns:=by rw [hnn] at hnd ⊢;exact keptL_head hnd
   rw [hkn] at k3
   have hlen:=hm.len
   have hnl:ns.length=k:=by rw [hnn] at hn;simpa using hn
   have hm2:TmpOk { tm with names:=ns }:=⟨hm.owner,hm.limit,by show ns.length≤tm.last;omega,hm.last⟩
   have hnd2:ns.Nodup:=by rw [hnn] at hnd;exact (List.nodup_cons.1 hnd).2
   obtain ⟨H4,A4,m1,m2⟩:=ih { tm with names:=ns } (s.remove n).2 A' H3 hnl k3.at' hm2 (remove_rok hk n) hnd2 hcl
   have hS2:=k3.stp
   rw [hcr]
   refine ⟨H4,A4,?_,m2.at',hS2.trans m2.stp (fun _ h=>h) k3.own,fun a ha=>?_⟩
   ·rcases (show (s.remove n).1=0 ∨ ((s.remove n).1 ≠ 0∧(s.remove n).1=5) by omega) with e | ⟨e,e'⟩
    ·have e0:((s.remove n).1 != 0)=false:=by rw [e];rfl
     simp only [go_sem,Nat.zero_add,l4,hln,hlt,R19_Temps_Close_J4_eq,hi0,aload_vpc,l0,p1,e0,R19_Temps_Close_J5_eq,k4,k1,k2]
     exact m1
    ·have e0:((s.remove n).1 != 0)=true:=by simpa using e
     have e5:((s.remove n).1 != 5)=false:=by rw [e'];rfl
     simp only [go_sem,Nat.zero_add,l4,hln,hlt,R19_Temps_Close_J4_eq,hi0,aload_vpc,l0,p1,e0,e5,R19_Temps_Close_J5_eq,k4,k1,k2]
     exact m1
   ·rcases m2.own a ha with k | k
    ·exact k3.own a k
    ·have:=hS2.len;exact .inr (by omega)
theorem rTClose_run {y r : Nat} {tm : Tmp} {s : Sto} {A : List Nat} {H : Hp} (h : RSysAt H y r tm s A) (hm : TmpOk tm) (hk : ROk s) (hnd : tm.names.Nodup) :
    ∃ H' A',C_R19_Temps_Close [.ptr y 0] H=some (.int .i64 (gClose tm s).1,H')∧RSysRes H H' y r (gClose tm s).2.1 (gClose tm s).2.2 A A':=by
 unfold gClose clErr clSto
 dsimp only
 cases hcl:tm.closed with
 | true =>
  rw [if_pos rfl,if_pos rfl,if_pos rfl]
  have hsys:=h
  obtain ⟨nx,sx,R,h1,h2,h3,rfl⟩:=h
  have l6:=ldn h1.cells 6 (v:=.bool true) (by show some (AV.bool tm.closed)=_;rw [hcl])
  refine ⟨H,_,?_,hsys.self⟩
  rw [F_R19_Temps_Close_eq]
  unfold F_R19_Temps_Close
  simp only [nilY,go_sem,R19_Temps_Close_J1_eq,Nat.zero_add,l6]
 | false =>
  rw [if_neg (by simp),if_neg (by simp),if_neg (by simp)]
  obtain ⟨H',A',q1,q2⟩:=rclose_loop (y:=y) (r:=r) H tm.names.length tm s A H rfl h hm hk hnd hcl
  refine ⟨H',A',?_,q2⟩
  obtain ⟨nx,sx,R,h1,h2,h3,rfl⟩:=h
  have l6:=ldn h1.cells 6 (v:=.bool false) (by show some (AV.bool tm.closed)=_;rw [hcl])
  rw [F_R19_Temps_Close_eq]
  unfold F_R19_Temps_Close
  simp only [nilY,go_sem,R19_Temps_Close_J1_eq,Nat.zero_add,l6,R19_Temps_Close_J2_eq]
  exact q1
end Go.Am
namespace Go.Am
set_option linter.unusedSimpArgs false
set_option linter.unusedVariables false
set_option linter.unusedSectionVars false
set_option maxRecDepth 100000

def RSysE (H:Hp) (y r:Nat) (tm:Tmp) (s:Sto) (A:List Nat) (k:Nat):Prop:=∃ sl,RSysAt H y r { tm with sld:=sl } s A∧(∀ n ∈ tm.names,(n ∈ sl ↔ n ∈ tm.sld))∧(∀ n ∈ sl,Num tm n)∧sl.length≤k
def RMAt (H:Hp) (r:Nat) (p:AV) (m:Option Tmp) (s:Sto) (A:List Nat) (k:Nat):Prop:=match m with
 | none=>p=.nilp∧RefAt H r s A
 | some tm=>∃ y,p=.ptr y 0∧RSysE H y r tm s A k
structure RMRes (H H':Hp) (r:Nat) (p:AV) (m':Option Tmp) (s':Sto) (A A':List Nat) (k:Nat):Prop where
 at':RMAt H' r p m' s' A' k
 stp:Stp A H H'
 own:∀ a ∈ A',a ∈ A ∨ H.length≤a
theorem RMAt.lt {H:Hp} {r k:Nat} {p:AV} {m:Option Tmp} {s:Sto} {A:List Nat} (h:RMAt H r p m s A k):∀ a ∈ A,a < H.length:=by
 cases m with
 | none=>exact h.2.lt
 | some tm =>
  obtain ⟨y,_,sl,h,_⟩:=h
  exact h.lt
theorem RMAt.frame {H H':Hp} {r k:Nat} {p:AV} {m:Option Tmp} {s:Sto} {A:List Nat} (h:RMAt H r p m s A k) (hf:∀ a ∈ A,H'[a]?=H[a]?):RMAt H' r p m s A k:=by
 cases m with
 | none=>exact ⟨h.1,h.2.frame hf⟩
 | some tm =>
  obtain ⟨y,h1,sl,h2,h3⟩:=h
  exact ⟨y,h1,sl,h2.frame hf,h3⟩
theorem RMAt.up {H:Hp} {r k:Nat} {p:AV} {m:Option Tmp} {s:Sto} {A:List Nat} (h:RMAt H r p m s A k):RMAt H r p m s A (k+1):=by
 cases m with
 | none=>exact h
 | some tm =>
  obtain ⟨y,h1,sl,h2,h3,h4,h5⟩:=h
  exact ⟨y,h1,sl,h2,h3,h4,Nat.le_succ_of_le h5⟩
theorem RMAt.sto {H:Hp} {r k:Nat} {p:AV} {m:Option Tmp} {s:Sto} {A:List Nat} (h:RMAt H r p m s A k):∃ R,RefAt H r s R∧(∀ a ∈ R,a ∈ A)∧∀ {H':Hp} {s':Sto} {R':List Nat},RefRes H H' r s' R R'→∃ A',RMRes H H' r p m s' A A' (k+1):=by
 cases m with
 | none=>exact ⟨A,h.2,fun a ha=>ha,fun {H' s' R'} hr=>⟨R',⟨h.1,hr.at'⟩,hr.stp,hr.own⟩⟩
 | some tm =>
  obtain ⟨y,e,sl,⟨nx,sx,R,h1,h2,h3,rfl⟩,h4,h5,h6⟩:=h
  refine ⟨R,h2,fun a ha=>List.mem_append_right _ ha,fun {H' s' R'} hr=>?_⟩
  have:=rsys_sto h1 h3 hr
  exact ⟨_,⟨y,e,sl,this.at',h4,h5,Nat.le_succ_of_le h6⟩,this.stp,this.own⟩
theorem RMAt.self {H:Hp} {r k:Nat} {p:AV} {m:Option Tmp} {s:Sto} {A:List Nat} (h:RMAt H r p m s A k):RMRes H H r p m s A A (k+1):=⟨h.up,Stp.refl _ _,fun a ha=>.inl ha⟩
theorem RSysRes.mres {H H':Hp} {y r k:Nat} {tm tm':Tmp} {s':Sto} {A A':List Nat} (sl:List Txt) (h:RSysRes H H' y r { tm' with sld:=sl } s' A A') (h1:∀ n ∈ tm'.names,(n ∈ sl ↔ n ∈ tm'.sld)) (h2:∀ n ∈ sl,Num tm' n) (h3:sl.length≤k):RMRes H H' r (.ptr y 0) (some tm') s' A A' k :=
 ⟨⟨y,rfl,sl,h.at',h1,h2,h3⟩,h.stp,h.own⟩
theorem rdo_fin {H H3 : Hp} {r k : Nat} {p' : AV} {m' : Option Tmp} {s' : Sto} {A A3 : List Nat} {l : List AV} {H2 : Hp} (hlA : ∀ a ∈ A, a < H.length) (hl2 : H2.length = H.length + 2) (hS : Stp [] H H2) (g1 : H2[H.length + 1]? = some (.cells l)) (h3 : l.length = 3)
    (hr:RMRes H2 H3 r p' m' s' A A3 k) (tx:Txt) (n e:Int) :
    astoreU 3 (.ptr (H.length+1) 0) (.agg (resC tx n e)) H3=some (.tuple [],H3.set (H.length+1) (.cells (resC tx n e)))∧aload true 3 (.ptr (H.length+1) 0) (H3.set (H.length+1) (.cells (resC tx n e)))=some (.agg (resC tx n e))∧RMRes H (H3.set (H.length+1) (.cells (resC tx n e))) r p' m' s' A A3 k:=by
 have hq:H.length+1 ∉ A:=fun hh=>by have:=hlA _ hh;omega
 obtain ⟨a1,a2⟩:=res_store (hr.stp.get g1 hq) h3 tx n e
 have hl:=hr.stp.len
 refine ⟨a1,a2,hr.at'.frame fun a ha=>List.getElem?_set_ne (fun e=>?_),?_,fun a ha=>?_⟩
 ·rcases hr.own a ha with k1 | k1
  ·have:=hlA a k1;omega
  ·omega
 ·refine ⟨by simp;omega,fun a ha hn=>?_⟩
  rw [List.getElem?_set_ne (by omega),hr.stp.at' a (by omega) hn,hS.at' a ha (by simp)]
 ·rcases hr.own a ha with k1 | k1
  ·exact .inl k1
  ·exact .inr (by omega)
theorem nilN:∀ u,ebin (.pointer u) .eql .nilp .nilp=some (.bool true):=fun _=>rfl
theorem rown_nil (n:AV) (H:Hp):C_R19_Temps_own [.nilp,n] H=some (.int .i64 5,H):=by
 rw [F_R19_Temps_own_eq]
 unfold F_R19_Temps_own
 simp only [nilN,go_sem]
theorem rnew_nil (H:Hp):C_R19_Temps_New [.nilp] H=some (.tuple [.str [],.int .i64 5],H):=by
 rw [F_R19_Temps_New_eq]
 unfold F_R19_Temps_New
 simp only [nilN,go_sem]
theorem rclose_nil (H:Hp):C_R19_Temps_Close [.nilp] H=some (.int .i64 5,H):=by
 rw [F_R19_Temps_Close_eq]
 unfold F_R19_Temps_Close
 simp only [nilN,go_sem]
theorem rwrite_nil (n x:AV) (H:Hp):C_R19_Temps_Write [.nilp,n,x] H=some (.int .i64 5,H):=by
 rw [F_R19_Temps_Write_eq]
 unfold F_R19_Temps_Write
 simp only [rown_nil,go_sem,b50]
theorem rseal_nil (n:AV) (H:Hp):C_R19_Temps_Seal [.nilp,n] H=some (.int .i64 5,H):=by
 rw [F_R19_Temps_Seal_eq]
 unfold F_R19_Temps_Seal
 simp only [rown_nil,go_sem,b50]
theorem rremove_nil (n:AV) (H:Hp):C_R19_Temps_Remove [.nilp,n] H=some (.int .i64 5,H):=by
 rw [F_R19_Temps_Remove_eq]
 unfold F_R19_Temps_Remove
 simp only [rown_nil,go_sem,b50]
theorem rread_nil (n i:AV) (H:Hp):C_R19_Temps_Read [.nilp,n,i] H=some (.tuple [.str [],.int .i64 0,.int .i64 5],H):=by
 rw [F_R19_Temps_Read_eq]
 unfold F_R19_Temps_Read
 simp only [rown_nil,go_sem,b50]
theorem rused_nil (H:Hp):roC C_R19_Temps_Used [.nilp] H=some (.int .i64 0,H):=by
 refine roC_of (H1:=H) (v:=.int .i64 0) ?_ (Keep.refl _ _) (Nat.le_refl _) rfl
 rw [F_R19_Temps_Used_eq]
 unfold F_R19_Temps_Used
 simp only [nilN,go_sem]
section
variable {H:Hp} {r k:Nat} {p:AV} {m:Option Tmp} {s:Sto} {A:List Nat} (h:RMAt H r p m s A k) (hm:MInv m k) (hs:ROk s) (hk:k < 48)
include h hm hs hk
theorem rmnew : ∃ H' A', C_R19_Temps_New [p] H = some (.tuple [.str (withT m s fun tm => ((some (tmNew tm s).2.1, (tmNew tm s).2.2), ((tmNew tm s).1.1, 0, (tmNew tm s).1.2))).2.1, .int .i64 (withT m s fun tm => ((some (tmNew tm s).2.1, (tmNew tm s).2.2), ((tmNew tm s).1.1, 0, (tmNew tm s).1.2))).2.2.2], H') ∧
    RMRes H H' r p (withT m s fun tm=>((some (tmNew tm s).2.1,(tmNew tm s).2.2),((tmNew tm s).1.1,0,(tmNew tm s).1.2))).1.1 (withT m s fun tm=>((some (tmNew tm s).2.1,(tmNew tm s).2.2),((tmNew tm s).1.1,0,(tmNew tm s).1.2))).1.2 A A' (k+1):=by
 cases m with
 | none =>
  obtain ⟨rfl,h2⟩:=h
  exact ⟨H,A,rnew_nil H,⟨rfl,h2⟩,Stp.refl _ _,fun a ha=>.inl ha⟩
 | some tm =>
  have hi:=hm tm rfl
  obtain ⟨y,rfl,sl,h1,h2,h3,h4⟩:=h
  have hl:=hi.last
  obtain ⟨H',A',q1,q2⟩:=rTNew_run h1 (ok_sld hi.ok sl) hs (by show tm.last < 1000000;omega)
  rw [new_sld] at q1 q2
  obtain ⟨n1,n2,n3,n4⟩:=new_names tm s
  refine ⟨H',A',q1,RSysRes.mres (tm:=tm) sl q2 (fun n hn=>?_) (fun n hn=>(h3 n hn).up n2 n3) (Nat.le_succ_of_le h4)⟩
  rw [n1]
  rcases n4 n hn with k1 | k1
  ·exact h2 n k1
  ·have no : ∀ l : List Txt, (∀ x ∈ l, Num tm x) → n ∉ l := fun l hl2 hx => by
      obtain ⟨i,i1,i2⟩:=hl2 n hx
      have:=tmpName_inj (o:=tm.owner) (i:=tm.last+1) (j:=i) (by omega) (by omega) (by rw [← k1,← i2])
      omega
   exact ⟨fun x=>absurd x (no _ h3),fun x=>absurd x (no _ hi.snum)⟩
theorem rmwrite (n : Txt) {x : AV} {l : List Txt} (hx : SS x l) (hL : ∀ s ∈ l, s.length ≤ 1000000) (hl : costR l ≤ 1048576) : ∃ H' A', C_R19_Temps_Write [p, .str n, x] H = some (.int .i64 (withT m s fun tm => ((some tm, (tmWrite tm s n l).2), ([], 0, (tmWrite tm s n l).1))).2.2.2, H') ∧
    RMRes H H' r p (withT m s fun tm=>((some tm,(tmWrite tm s n l).2),([],0,(tmWrite tm s n l).1))).1.1 (withT m s fun tm=>((some tm,(tmWrite tm s n l).2),([],0,(tmWrite tm s n l).1))).1.2 A A' (k+1):=by
 cases m with
 | none =>
  obtain ⟨rfl,h2⟩:=h
  exact ⟨H,A,rwrite_nil _ _ H,⟨rfl,h2⟩,Stp.refl _ _,fun a ha=>.inl ha⟩
 | some tm =>
  have hi:=hm tm rfl
  obtain ⟨y,rfl,sl,h1,h2,h3,h4⟩:=h
  obtain ⟨H',A',q1,q2⟩:=rTWrite_run h1 (ok_sld hi.ok sl) hs (by show sl.length≤1048576;omega) n hx hL hl
  rw [write_sld tm sl h2] at q1 q2
  exact ⟨H',A',q1,RSysRes.mres (tm:=tm) sl q2 h2 h3 (Nat.le_succ_of_le h4)⟩
theorem rmseal (n : Txt) : ∃ H' A', C_R19_Temps_Seal [p, .str n] H = some (.int .i64 (withT m s fun tm => ((some (tmSeal tm s n).2.1, (tmSeal tm s n).2.2), ([], 0, (tmSeal tm s n).1))).2.2.2, H') ∧
    RMRes H H' r p (withT m s fun tm=>((some (tmSeal tm s n).2.1,(tmSeal tm s n).2.2),([],0,(tmSeal tm s n).1))).1.1 (withT m s fun tm=>((some (tmSeal tm s n).2.1,(tmSeal tm s n).2.2),([],0,(tmSeal tm s n).1))).1.2 A A' (k+1):=by
 cases m with
 | none =>
  obtain ⟨rfl,h2⟩:=h
  exact ⟨H,A,rseal_nil _ H,⟨rfl,h2⟩,Stp.refl _ _,fun a ha=>.inl ha⟩
 | some tm =>
  have hi:=hm tm rfl
  obtain ⟨y,rfl,sl,h1,h2,h3,h4⟩:=h
  obtain ⟨H',A',q1,q2⟩:=rTSeal_run h1 (ok_sld hi.ok sl) hs (by show sl.length≤1048575;omega) n
  obtain ⟨e1,e2⟩:=seal_sld tm sl s n
  rw [e1] at q1
  rw [e2] at q2
  refine ⟨H',A',q1,?_⟩
  show RMRes H H' r (.ptr y 0) (some (tmSeal tm s n).2.1) (tmSeal tm s n).2.2 A A' (k+1)
  unfold rSealT at q2
  have hf:tmFind { tm with sld:=sl } n=tmFind tm n:=rfl
  rw [hf] at q2
  by_cases h0:tmFind tm n ≠ 0
  ·rw [if_pos h0] at q2
   have:(tmSeal tm s n).2.1=tm:=by unfold tmSeal;rw [if_pos h0]
   rw [this]
   exact RSysRes.mres (tm:=tm) sl q2 h2 h3 (Nat.le_succ_of_le h4)
  ·rw [if_neg h0] at q2
   have hnm:=(find_mem (by simpa using h0)).1
   by_cases h01:(s.sync n).1 ≠ 0
   ·rw [if_pos h01] at q2
    have:(tmSeal tm s n).2.1=tm:=by unfold tmSeal;rw [if_neg h0,if_pos h01]
    rw [this]
    exact RSysRes.mres (tm:=tm) sl q2 h2 h3 (Nat.le_succ_of_le h4)
   ·rw [if_neg h01] at q2
    have:(tmSeal tm s n).2.1={ tm with sld:=addS tm.sld n }:=by unfold tmSeal;rw [if_neg h0,if_neg h01]
    rw [this]
    have hkl:(keptL n sl).length≤sl.length:=List.length_filter_le _ _
    have hkm:∀ x,x ∈ keptL n sl++[n] ↔ x ∈ sl ∨ x=n:=fun x=>by
     unfold keptL
     rw [List.mem_append,List.mem_filter,List.mem_singleton]
     constructor
     ·rintro (⟨h,_⟩ | h)
      ·exact .inl h
      ·exact .inr h
     ·rintro (h | h)
      ·by_cases e:x=n
       ·exact .inr e
       ·exact .inl ⟨h,by simpa using e⟩
      ·exact .inr h
    refine RSysRes.mres (tm:=tm) (tm':={ tm with sld:=addS tm.sld n }) (keptL n sl++[n]) q2 (fun x hx=>?_) (fun x hx=>?_) (by simp;omega)
    ·show x ∈ keptL n sl++[n] ↔ x ∈ addS tm.sld n
     rw [hkm,mem_addS,h2 x hx]
    ·rcases (hkm x).1 hx with e | e
     ·exact h3 x e
     ·rw [e];exact hi.num n hnm
theorem rmread (n : Txt) (i : Int) (hi : -9223372036854775808 ≤ i ∧ i ≤ 9223372036854775807) : ∃ H' A', C_R19_Temps_Read [p, .str n, .int .i64 i] H = some (.tuple [.str (withT m s fun tm => ((some tm, if tmFind tm n = 0 then s.tick else s), tmRead tm s n i)).2.1, .int .i64 (withT m s fun tm => ((some tm, if tmFind tm n = 0 then s.tick else s), tmRead tm s n i)).2.2.1, .int .i64 (withT m s fun tm => ((some tm, if tmFind tm n = 0 then s.tick else s), tmRead tm s n i)).2.2.2], H') ∧
    RMRes H H' r p (withT m s fun tm=>((some tm,if tmFind tm n=0 then s.tick else s),tmRead tm s n i)).1.1 (withT m s fun tm=>((some tm,if tmFind tm n=0 then s.tick else s),tmRead tm s n i)).1.2 A A' (k+1):=by
 cases m with
 | none =>
  obtain ⟨rfl,h2⟩:=h
  exact ⟨H,A,rread_nil _ _ H,⟨rfl,h2⟩,Stp.refl _ _,fun a ha=>.inl ha⟩
 | some tm =>
  have hiv:=hm tm rfl
  obtain ⟨y,rfl,sl,h1,h2,h3,h4⟩:=h
  obtain ⟨H',A',q1,q2⟩:=rTRead_run h1 (ok_sld hiv.ok sl) hs n i hi
  exact ⟨H',A',q1,RSysRes.mres (tm:=tm) sl q2 h2 h3 (Nat.le_succ_of_le h4)⟩
theorem rmremove (n : Txt) : ∃ H' A', C_R19_Temps_Remove [p, .str n] H = some (.int .i64 (withT m s fun tm => ((some (gRemove tm s n).2.1, (gRemove tm s n).2.2), ([], 0, (gRemove tm s n).1))).2.2.2, H') ∧
    RMRes H H' r p (withT m s fun tm=>((some (gRemove tm s n).2.1,(gRemove tm s n).2.2),([],0,(gRemove tm s n).1))).1.1 (withT m s fun tm=>((some (gRemove tm s n).2.1,(gRemove tm s n).2.2),([],0,(gRemove tm s n).1))).1.2 A A' (k+1):=by
 cases m with
 | none =>
  obtain ⟨rfl,h2⟩:=h
  exact ⟨H,A,rremove_nil _ H,⟨rfl,h2⟩,Stp.refl _ _,fun a ha=>.inl ha⟩
 | some tm =>
  have hi:=hm tm rfl
  obtain ⟨y,rfl,sl,h1,h2,h3,h4⟩:=h
  obtain ⟨H',A',q1,q2⟩:=rTRemove_run h1 (ok_sld hi.ok sl) hs n
  have e1:rmErr { tm with sld:=sl } s n=rmErr tm s n:=rfl
  have e2:rmSto { tm with sld:=sl } s n=rmSto tm s n:=rfl
  unfold gRemove at q1 q2
  dsimp only at q1 q2
  rw [e1] at q1 q2
  rw [e2] at q2
  refine ⟨H',A',q1,?_⟩
  show RMRes H H' r (.ptr y 0) (some (gRemove tm s n).2.1) (gRemove tm s n).2.2 A A' (k+1)
  by_cases k1:rmErr tm s n=0
  ·rw [if_pos k1] at q2
   have:(gRemove tm s n).2.1={ tm with names:=keptL n tm.names }:=by unfold gRemove;rw [if_pos k1]
   rw [this]
   exact RSysRes.mres (tm:=tm) (tm':={ tm with names:=keptL n tm.names }) sl q2 (fun x hx=>h2 x (List.mem_filter.1 hx).1) h3 (Nat.le_succ_of_le h4)
  ·rw [if_neg k1] at q2
   have:(gRemove tm s n).2.1=tm:=by unfold gRemove;rw [if_neg k1]
   rw [this]
   exact RSysRes.mres (tm:=tm) sl q2 h2 h3 (Nat.le_succ_of_le h4)
theorem rmclose : ∃ H' A', C_R19_Temps_Close [p] H = some (.int .i64 (withT m s fun tm => ((some (gClose tm s).2.1, (gClose tm s).2.2), ([], 0, (gClose tm s).1))).2.2.2, H') ∧
    RMRes H H' r p (withT m s fun tm=>((some (gClose tm s).2.1,(gClose tm s).2.2),([],0,(gClose tm s).1))).1.1 (withT m s fun tm=>((some (gClose tm s).2.1,(gClose tm s).2.2),([],0,(gClose tm s).1))).1.2 A A' (k+1):=by
 cases m with
 | none =>
  obtain ⟨rfl,h2⟩:=h
  exact ⟨H,A,rclose_nil H,⟨rfl,h2⟩,Stp.refl _ _,fun a ha=>.inl ha⟩
 | some tm =>
  have hi:=hm tm rfl
  obtain ⟨y,rfl,sl,h1,h2,h3,h4⟩:=h
  obtain ⟨H',A',q1,q2⟩:=rTClose_run h1 (ok_sld hi.ok sl) hs hi.nd
  have e1:clErr { tm with sld:=sl } s=clErr tm s:=rfl
  have e2:clSto { tm with sld:=sl } s=clSto tm s:=rfl
  unfold gClose at q1 q2
  dsimp only at q1 q2
  rw [e1] at q1
  rw [e2] at q2
  refine ⟨H',A',q1,?_⟩
  show RMRes H H' r (.ptr y 0) (some (gClose tm s).2.1) (gClose tm s).2.2 A A' (k+1)
  by_cases k1:tm.closed=true
  ·rw [if_pos k1] at q2
   have:(gClose tm s).2.1=tm:=by unfold gClose;rw [if_pos k1]
   rw [this]
   exact RSysRes.mres (tm:=tm) sl q2 h2 h3 (Nat.le_succ_of_le h4)
  ·rw [if_neg k1] at q2
   have:(gClose tm s).2.1={ tm with names:=(closeRm tm.names s).2.1,closed:=decide ((closeRm tm.names s).1=0) }:=by unfold gClose;rw [if_neg k1]
   rw [this]
   obtain ⟨a,ha⟩:=closeRm_sub tm.names s
   exact RSysRes.mres (tm:=tm) (tm':={ tm with names:=(closeRm tm.names s).2.1,closed:=decide ((closeRm tm.names s).1=0) }) sl q2 (fun x hx=>h2 x (by rw [ha];exact List.mem_append_right _ hx)) h3 (Nat.le_succ_of_le h4)
end
theorem rmopen {H : Hp} {r k k2 : Nat} {p : AV} {m : Option Tmp} {s : Sto} {A : List Nat} (h : RMAt H r p m s A k) (hs : ROk s) (ow : Txt) (ho : ow.length ≤ 1048000) (lim : Int) :
    ∃ H' A' p',C_R19_Open [.ptr r 0,.str ow,.int .i64 lim] H=some (.tuple [p',.int .i64 (gOpen ow lim s).1],H')∧RMRes H H' r p' (gOpen ow lim s).2.1 (gOpen ow lim s).2.2 A A' k2:=by
 obtain ⟨R,h1,h2,_⟩:=h.sto
 obtain ⟨p',e,H',q1,q2⟩:=ROpen19_run h1 hs ow ho lim
 unfold gOpen
 rcases q2 with ⟨v1,rfl,rfl,rfl⟩ | ⟨v1,v2,rfl,rfl,S',v3⟩ | ⟨v1,v2,rfl,o,S',rfl,v3,v4,v5,v6⟩
 ·rw [if_neg (by simp [v1])]
  exact ⟨H',R,.nilp,q1,⟨rfl,h1⟩,Stp.refl _ _,fun a ha=>.inl (h2 a ha)⟩
 ·rw [if_pos v1]
  dsimp only
  rw [if_neg v2]
  refine ⟨H',S',.nilp,q1,⟨rfl,v3.at'⟩,v3.stp.mono h2,fun a ha=>(v3.own a ha).imp (h2 a) id⟩
 ·rw [if_pos v1]
  dsimp only
  rw [if_pos v2,v2]
  refine ⟨H',[o]++S',_,q1,⟨o,rfl,[],⟨.nils,.nils,S',⟨v5,.inl ⟨rfl,rfl⟩,.inl ⟨rfl,rfl⟩,by simp [tokA]⟩,v6.at',fun a ha=>?_,rfl⟩,by simp,by simp,by simp⟩,v6.stp.mono h2,fun a ha=>?_⟩
  ·simp [tokA] at ha
   rw [ha];exact v4
  ·rcases List.mem_append.1 ha with k | k
   ·rw [List.mem_singleton.1 k];exact .inr v3
   ·exact (v6.own a k).imp (h2 a) id
theorem lines_le {c:Cl} (h:ClSm c):∀ s ∈ c.lines,s.length≤1000000:=by
 have:∀ (l:List Txt),∀ s ∈ l,s.length≤linesN l:=fun l=>by
  induction l with
  | nil=>intro s hs;cases hs
  | cons x l ih =>
   intro s hs
   rw [linesN]
   rcases List.mem_cons.1 hs with e | hs
   ·rw [e];omega
   ·have:=ih s hs;omega
 intro s hs
 have:=this c.lines s hs
 have:=h.sum
 omega
theorem model_run {H : Hp} {t k : Nat} {p : AV} {m : Option Tmp} {s : Sto} {A : List Nat} (h : RMAt H t p m s A k) (hm : MInv m k) (hs : ROk s) (hk : k < 48) (c : Cl) (hc : ClOk c) (hsm : ClSm c) {y : AV} (hy : SS y c.lines) :
    ∃ H' A' p',C_L19_model [.ptr t 0,p,.agg (c.cells y)] H=some (.tuple [p',.agg (resC (doP c m s).2.1 (doP c m s).2.2.1 (doP c m s).2.2.2)],H')∧RMRes H H' t p' (doP c m s).1.1 (doP c m s).1.2 A A' (k+1):=by
 have hbx:abox (.agg (c.cells y)) H=some (.ptr H.length 0,H++[AObj.cells (c.cells y)]):=abox_of rfl
 have hl1:(H++[AObj.cells (c.cells y)]).length=H.length+1:=by simp
 have hlA:=h.lt
 have g0:(H++[AObj.cells (c.cells y)]++[AObj.cells [(.str []),(.int .i64 0),(.int .i64 0)]])[H.length]?=some (.cells (c.cells y)):=by simp
 have g1:(H++[AObj.cells (c.cells y)]++[AObj.cells [(.str []),(.int .i64 0),(.int .i64 0)]])[H.length+1]?=some (.cells [(.str []),(.int .i64 0),(.int .i64 0)]):=by
  rw [List.getElem?_append_right (by simp)];simp
 have l0:=ldn g0 0 (v:=.int .i64 c.op) rfl
 have l1:=ldn g0 1 (v:=.str c.name) rfl
 have l2:=ldn g0 2 (v:=y) rfl
 have l3:=ldn g0 3 (v:=.int .i64 c.at') rfl
 have l4:=ldn g0 4 (v:=.int .u64 (c.kept:Int)) rfl
 have hM:RMAt (H++[AObj.cells (c.cells y)]++[AObj.cells [(.str []),(.int .i64 0),(.int .i64 0)]]) t p m s A k:=h.frame fun a ha=>by
  rw [List.append_assoc,List.getElem?_append_left (hlA a ha)]
 have hS:Stp [] H (H++[AObj.cells (c.cells y)]++[AObj.cells [(.str []),(.int .i64 0),(.int .i64 0)]]):=by rw [List.append_assoc];exact Stp.push _ _
 have hl2:(H++[AObj.cells (c.cells y)]++[AObj.cells [(.str []),(.int .i64 0),(.int .i64 0)]]).length=H.length+2:=by simp
 generalize hH2:H++[AObj.cells (c.cells y)]++[AObj.cells [(.str []),(.int .i64 0),(.int .i64 0)]]=H2 at l0 l1 l2 l3 l4 g1 hM hl2 hS
 have fin:=fun {H3:Hp} {p':AV} {m':Option Tmp} {s':Sto} {A3:List Nat} (hr:RMRes H2 H3 t p' m' s' A A3 (k+1)) (tx:Txt) (n e:Int)=>rdo_fin hlA hl2 hS g1 rfl hr tx n e
 have fa:∀ (tx:Txt) (e:Int),(afill [(0,1,.str tx),(2,1,.int .i64 e)] [(.str []),(.int .i64 0),(.int .i64 0)]).map AV.agg=some (.agg (resC tx 0 e)):=fun _ _=>rfl
 have fb:∀ (e:Int),(afill [(2,1,.int .i64 e)] [(.str []),(.int .i64 0),(.int .i64 0)]).map AV.agg=some (.agg (resC [] 0 e)):=fun _=>rfl
 have fc:∀ (tx:Txt) (n e:Int),(afill [(0,1,.str tx),(1,1,.int .i64 n),(2,1,.int .i64 e)] [(.str []),(.int .i64 0),(.int .i64 0)]).map AV.agg=some (.agg (resC tx n e)):=fun _ _ _=>rfl
 have j1:∀ {H3:Hp} {m':Option Tmp} {s':Sto} {A3:List Nat} (H0:Hp),RMRes H2 H3 t p m' s' A A3 (k+1)→∃ H',L19_model_J1 p (.ptr (H.length+1) 0) H0 H3=some (.tuple [p,.agg (resC [] 0 0)],H')∧RMRes H H' t p m' s' A A3 (k+1):=fun H0 hr=>by
  obtain ⟨s1,s2,s3⟩:=fin hr [] 0 0
  exact ⟨_,by rw [L19_model_J1_eq];simp only [go_sem,s1,s2],s3⟩
 have hc':=hsm
 rw [F_L19_model_eq]
 unfold F_L19_model doP
 by_cases h0:c.op=0
 ·rw [if_pos h0]
  rw [h0] at l0
  obtain ⟨H3,A3,r1,r2⟩:=rmnew hM hm hs hk
  have hz:(withT m s fun tm=>((some (tmNew tm s).2.1,(tmNew tm s).2.2),((tmNew tm s).1.1,0,(tmNew tm s).1.2))).2.2.1=0:=by cases m <;> rfl
  obtain ⟨s1,s2,s3⟩:=fin r2 (withT m s fun tm=>((some (tmNew tm s).2.1,(tmNew tm s).2.2),((tmNew tm s).1.1,0,(tmNew tm s).1.2))).2.1 0 (withT m s fun tm=>((some (tmNew tm s).2.1,(tmNew tm s).2.2),((tmNew tm s).1.1,0,(tmNew tm s).1.2))).2.2.2
  rw [hz]
  exact ⟨_,A3,p,by simp only [hbx,go_sem,hl1,hH2,Nat.zero_add,l0,Int.reduceBEq,r1,List.getElem?_cons_zero,List.getElem?_cons_succ,fa,s1,s2],s3⟩
 have z:∀ f:Tmp→Out,(∀ tm,(f tm).2.1=[]∧(f tm).2.2.1=0)→(withT m s f).2.1=[]∧(withT m s f).2.2.1=0:=fun f hf=>by
  cases m with
  | none=>exact ⟨rfl,rfl⟩
  | some tm=>exact hf tm
 rw [if_neg h0]
 have b0:(c.op == 0)=false:=by simpa using h0
 by_cases h1:c.op=1
 ·rw [if_pos h1]
  rw [h1] at l0
  have hcl:costR c.lines≤1048576:=by
   have:=hsm.sum;have:=hsm.cnt
   rw [costR_lines];omega
  obtain ⟨H3,A3,r1,r2⟩:=rmwrite hM hm hs hk c.name hy (lines_le hsm) hcl
  obtain ⟨z1,z2⟩:=z (fun tm=>((some tm,(tmWrite tm s c.name c.lines).2),([],0,(tmWrite tm s c.name c.lines).1))) fun tm=>⟨rfl,rfl⟩
  rw [z1,z2]
  obtain ⟨s1,s2,s3⟩:=fin r2 [] 0 (withT m s fun tm=>((some tm,(tmWrite tm s c.name c.lines).2),([],0,(tmWrite tm s c.name c.lines).1))).2.2.2
  exact ⟨_,A3,p,by simp only [hbx,go_sem,hl1,hH2,Nat.zero_add,l0,l1,l2,Int.reduceBEq,r1,fb,s1,s2],s3⟩
 rw [if_neg h1]
 have b1:(c.op == 1)=false:=by simpa using h1
 by_cases h2:c.op=2
 ·rw [if_pos h2]
  rw [h2] at l0
  obtain ⟨H3,A3,r1,r2⟩:=rmseal hM hm hs hk c.name
  obtain ⟨z1,z2⟩:=z (fun tm=>((some (tmSeal tm s c.name).2.1,(tmSeal tm s c.name).2.2),([],0,(tmSeal tm s c.name).1))) fun tm=>⟨rfl,rfl⟩
  rw [z1,z2]
  obtain ⟨s1,s2,s3⟩:=fin r2 [] 0 (withT m s fun tm=>((some (tmSeal tm s c.name).2.1,(tmSeal tm s c.name).2.2),([],0,(tmSeal tm s c.name).1))).2.2.2
  exact ⟨_,A3,p,by simp only [hbx,go_sem,hl1,hH2,Nat.zero_add,l0,l1,Int.reduceBEq,r1,fb,s1,s2],s3⟩
 rw [if_neg h2]
 have b2:(c.op == 2)=false:=by simpa using h2
 by_cases h3:c.op=3
 ·rw [if_pos h3]
  rw [h3] at l0
  obtain ⟨H3,A3,r1,r2⟩:=rmread hM hm hs hk c.name c.at' hc.at'
  obtain ⟨s1,s2,s3⟩:=fin r2 (withT m s fun tm=>((some tm,if tmFind tm c.name=0 then s.tick else s),tmRead tm s c.name c.at')).2.1 (withT m s fun tm=>((some tm,if tmFind tm c.name=0 then s.tick else s),tmRead tm s c.name c.at')).2.2.1 (withT m s fun tm=>((some tm,if tmFind tm c.name=0 then s.tick else s),tmRead tm s c.name c.at')).2.2.2
  exact ⟨_,A3,p,by simp only [hbx,go_sem,hl1,hH2,Nat.zero_add,l0,l1,l3,Int.reduceBEq,r1,List.getElem?_cons_zero,List.getElem?_cons_succ,fc,s1,s2],s3⟩
 rw [if_neg h3]
 have b3:(c.op == 3)=false:=by simpa using h3
 by_cases h4:c.op=4
 ·rw [if_pos h4]
  rw [h4] at l0
  obtain ⟨H3,A3,r1,r2⟩:=rmremove hM hm hs hk c.name
  obtain ⟨z1,z2⟩:=z (fun tm=>((some (gRemove tm s c.name).2.1,(gRemove tm s c.name).2.2),([],0,(gRemove tm s c.name).1))) fun tm=>⟨rfl,rfl⟩
  rw [z1,z2]
  obtain ⟨s1,s2,s3⟩:=fin r2 [] 0 (withT m s fun tm=>((some (gRemove tm s c.name).2.1,(gRemove tm s c.name).2.2),([],0,(gRemove tm s c.name).1))).2.2.2
  exact ⟨_,A3,p,by simp only [hbx,go_sem,hl1,hH2,Nat.zero_add,l0,l1,Int.reduceBEq,r1,fb,s1,s2],s3⟩
 rw [if_neg h4]
 have b4:(c.op == 4)=false:=by simpa using h4
 by_cases h5:c.op=5
 ·rw [if_pos h5]
  rw [h5] at l0
  obtain ⟨H3,A3,r1,r2⟩:=rmclose hM hm hs hk
  obtain ⟨z1,z2⟩:=z (fun tm=>((some (gClose tm s).2.1,(gClose tm s).2.2),([],0,(gClose tm s).1))) fun tm=>⟨rfl,rfl⟩
  rw [z1,z2]
  obtain ⟨s1,s2,s3⟩:=fin r2 [] 0 (withT m s fun tm=>((some (gClose tm s).2.1,(gClose tm s).2.2),([],0,(gClose tm s).1))).2.2.2
  exact ⟨_,A3,p,by simp only [hbx,go_sem,hl1,hH2,Nat.zero_add,l0,Int.reduceBEq,r1,fb,s1,s2],s3⟩
 rw [if_neg h5]
 have b5:(c.op == 5)=false:=by simpa using h5
 by_cases h6:c.op=6
 ·rw [if_pos h6]
  rw [h6] at l0
  obtain ⟨H3,A3,p',r1,r2⟩:=rmopen hM hs c.name (by have:=hsm.name;omega) c.at'
  obtain ⟨s1,s2,s3⟩:=fin r2 [] 0 (gOpen c.name c.at' s).1
  exact ⟨_,A3,p',by simp only [hbx,go_sem,hl1,hH2,Nat.zero_add,l0,l1,l3,Int.reduceBEq,r1,List.getElem?_cons_zero,List.getElem?_cons_succ,fb,s1,s2],s3⟩
 rw [if_neg h6]
 have b6:(c.op == 6)=false:=by simpa using h6
 obtain ⟨S,hsto,_,hres⟩:=hM.sto
 by_cases h7:c.op=7
 ·rw [if_pos h7]
  rw [h7] at l0
  obtain ⟨H3,r1,r2⟩:=rFail_run hsto c.at'
  obtain ⟨A3,r3⟩:=hres r2
  obtain ⟨H',k1,k2⟩:=j1 H r3
  exact ⟨H',A3,p,by simp only [hbx,go_sem,hl1,hH2,Nat.zero_add,l0,l3,Int.reduceBEq,r1];exact k1,k2⟩
 rw [if_neg h7]
 have b7:(c.op == 7)=false:=by simpa using h7
 by_cases h8:c.op=8
 ·rw [if_pos h8]
  rw [h8] at l0
  obtain ⟨H3,r1,r2⟩:=rRestart_run hsto hs c.kept
  obtain ⟨A3,r3⟩:=hres r2
  obtain ⟨H',k1,k2⟩:=j1 H r3
  exact ⟨H',A3,p,by simp only [hbx,go_sem,hl1,hH2,Nat.zero_add,l0,l4,Int.reduceBEq,r1];exact k1,k2⟩
 rw [if_neg h8]
 have b8:(c.op == 8)=false:=by simpa using h8
 by_cases h9:c.op=9
 ·rw [if_pos h9]
  rw [h9] at l0
  obtain ⟨H3,S3,r1,r2⟩:=rCreate_run hsto hs c.name hc.name
  obtain ⟨A3,r3⟩:=hres r2
  obtain ⟨s1,s2,s3⟩:=fin r3 [] 0 (s.create c.name).1
  exact ⟨_,A3,p,by simp only [hbx,go_sem,hl1,hH2,Nat.zero_add,l0,l1,Int.reduceBEq,r1,fb,s1,s2],s3⟩
 rw [if_neg h9]
 have b9:(c.op == 9)=false:=by simpa using h9
 by_cases h10:c.op=10
 ·rw [if_pos h10]
  rw [h10] at l0
  have hff:=first_flat hy H2
  obtain ⟨H3,S3,r1,r2⟩:=rAppend_run hsto hs c.name (c.lines.headD []) (headD_le hc)
  obtain ⟨A3,r3⟩:=hres r2
  obtain ⟨s1,s2,s3⟩:=fin r3 [] 0 (s.append c.name (c.lines.headD [])).1
  exact ⟨_,A3,p,by simp only [hbx,go_sem,hl1,hH2,Nat.zero_add,l0,l1,l2,hff,Int.reduceBEq,r1,fb,s1,s2],s3⟩
 rw [if_neg h10]
 have b10:(c.op == 10)=false:=by simpa using h10
 by_cases h11:c.op=11
 ·rw [if_pos h11]
  rw [h11] at l0
  obtain ⟨H3,S3,r1,r2⟩:=rRemove_run hsto hs c.name
  obtain ⟨A3,r3⟩:=hres r2
  obtain ⟨s1,s2,s3⟩:=fin r3 [] 0 (s.remove c.name).1
  exact ⟨_,A3,p,by simp only [hbx,go_sem,hl1,hH2,Nat.zero_add,l0,l1,Int.reduceBEq,r1,fb,s1,s2],s3⟩
 rw [if_neg h11]
 have b11:(c.op == 11)=false:=by simpa using h11
 obtain ⟨H',k1,k2⟩:=j1 H hM.self
 exact ⟨H',A,p,by simp only [hbx,go_sem,hl1,hH2,Nat.zero_add,l0,b0,b1,b2,b3,b4,b5,b6,b7,b8,b9,b10,b11];exact k1,k2⟩
end Go.Am
namespace Go.Am
set_option linter.unusedSimpArgs false
set_option linter.unusedVariables false
set_option linter.unusedSectionVars false
set_option maxRecDepth 100000

theorem res_cmp (a a' : Txt) (m m' n n' : Int) : aeqBin Go.Proofs.Tryz.prog cfg.eqok .neq 37 (.agg [.str a, .int .i64 m, .int .i64 n]) (.agg [.str a', .int .i64 m', .int .i64 n']) =
    (match (match some (a == a') with
     | some true=>(match some (m == m') with
      | some true=>(match some (n == n') with
       | some true=>some true
       | r=>r)
      | r=>r)
     | r=>r:Option Bool) with
    | some b=>some (.bool (!b))
    | none=>none):=by kernel_rfl
theorem res_same (a:Txt) (m n:Int):aeqBin Go.Proofs.Tryz.prog cfg.eqok .neq 37 (.agg (resC a m n)) (.agg (resC a m n))=some (.bool false):=by
 unfold resC
 rw [res_cmp]
 simp
def usedP (m:Option Tmp) (s:Sto):Int:=match m with
 | none=>0
 | some tm=>if tm.closed then 0 else (tmUsed tm s:Int)
theorem mused {H:Hp} {t k:Nat} {p:AV} {m:Option Tmp} {s:Sto} {A:List Nat} (h:MAt H t p m s A) (hm:MInv m k) (hs:ROk s):roC C_tempfile_Temps_Used [p] H=some (.int .i64 (usedP m s),H):=by
 cases m with
 | none=>rw [h.1];exact used_nil H
 | some tm =>
  obtain ⟨o,rfl,sl,h1,_⟩:=h
  have:=Used_ro h1 (ok_sld (hm tm rfl).ok sl) hs.sto
  exact this
theorem rmused {H:Hp} {t k j:Nat} {p:AV} {m:Option Tmp} {s:Sto} {A:List Nat} (h:RMAt H t p m s A j) (hm:MInv m k) (hs:ROk s):roC C_R19_Temps_Used [p] H=some (.int .i64 (usedP m s),H):=by
 cases m with
 | none=>rw [h.1];exact rused_nil H
 | some tm =>
  obtain ⟨o,rfl,sl,h1,_⟩:=h
  have:=rTUsed_ro h1 (ok_sld (hm tm rfl).ok sl) hs
  exact this
theorem mnil {H H':Hp} {t u j:Nat} {p x:AV} {m:Option Tmp} {s:Sto} {A B:List Nat} (h:MAt H t p m s A) (h':RMAt H' u x m s B j):∃ b,(∀ c,ebin (.pointer c) .eql p .nilp=some (.bool b))∧∀ c,ebin (.pointer c) .eql x .nilp=some (.bool b):=by
 cases m with
 | none =>
  obtain ⟨rfl,_⟩:=h
  obtain ⟨rfl,_⟩:=h'
  exact ⟨true,fun _=>rfl,fun _=>rfl⟩
 | some tm =>
  obtain ⟨o,rfl,_⟩:=h
  obtain ⟨o',rfl,_⟩:=h'
  exact ⟨false,fun _=>rfl,fun _=>rfl⟩
theorem calls_loop {ow : Txt} (ho : ow.length ≤ 1048000) {x : AV} {cs : List Cl} (hx : CsV x cs) (hco : ∀ c ∈ cs, ClOk c) (hcs : CsOk cs) {t u : Nat} (H0 : Hp) : ∀ (r d : List Cl) (H : Hp) (p q : AV) (m : Option Tmp) (s : Sto) (A B : List Nat), cs = d ++ r → MAt H t p m s A → RMAt H u q m s B d.length → (∀ a ∈ A, a ∉ B) → MInv m d.length → ROk s →
    ∃ H',L19_TempfileCalls_L1 (.str ow) x (.ptr t 0) (.ptr u 0) p q (.int .i64 (d.length:Int)) H0 H=some (.bool true,H'):=by
 have h40:=hcs.cnt
 have hxl:∀ v,alenD (.slice v) x=some (.int .i64 (cs.length:Int)):=fun v=>hx.len v
 intro r
 induction r with
 | nil =>
  intro d H p q m s A B hd h1 h2 h3 hm hs
  rw [List.append_nil] at hd
  subst hd
  have hlt:decide ((cs.length:Int) < (cs.length:Int))=false:=by simp
  obtain ⟨H',hw⟩:=awake19_run H
  exact ⟨H',by rw [L19_TempfileCalls_L1_eq];simp only [go_sem,hxl,hlt,L19_TempfileCalls_J3_eq,hw]⟩
 | cons c r ih =>
  intro d H p q m s A B hd h1 h2 h3 hm hs
  have hlen:cs.length=d.length+(r.length+1):=by rw [hd];simp
  have hlt:decide ((d.length:Int) < (cs.length:Int))=true:=by simp;omega
  have hw1:IntKind.i64.wrap ((d.length:Int)+1)=((d.length+1:Nat):Int):=by rw [wrap64 (by omega) (by omega)];omega
  have hcm:c ∈ cs:=by rw [hd];simp
  obtain ⟨y,hi,hy⟩:=hx.idx (i:=d.length) (c:=c) (by rw [hd,List.getElem?_append_right (Nat.le_refl _)];simp)
  have hl1:(H++[AObj.cells [(.str []),(.int .i64 0),(.int .i64 0)]]).length=H.length+1:=by simp
  have hlA:=h1.lt
  have hlB:=h2.lt
  have g0:(H++[AObj.cells [(.str []),(.int .i64 0),(.int .i64 0)]]++[AObj.cells [(.str []),(.int .i64 0),(.int .i64 0)]])[H.length]?=some (.cells [(.str []),(.int .i64 0),(.int .i64 0)]):=by simp
  have g1:(H++[AObj.cells [(.str []),(.int .i64 0),(.int .i64 0)]]++[AObj.cells [(.str []),(.int .i64 0),(.int .i64 0)]])[H.length+1]?=some (.cells [(.str []),(.int .i64 0),(.int .i64 0)]):=by
   rw [List.getElem?_append_right (by simp)];simp
  have fr:∀ a,a < H.length→(H++[AObj.cells [(.str []),(.int .i64 0),(.int .i64 0)]]++[AObj.cells [(.str []),(.int .i64 0),(.int .i64 0)]])[a]?=H[a]?:=fun a ha=>by rw [List.append_assoc,List.getElem?_append_left ha]
  have hl2:(H++[AObj.cells [(.str []),(.int .i64 0),(.int .i64 0)]]++[AObj.cells [(.str []),(.int .i64 0),(.int .i64 0)]]).length=H.length+2:=by simp
  have h1':=h1.frame fun a ha=>fr a (hlA a ha)
  have h2':=h2.frame fun a ha=>fr a (hlB a ha)
  generalize hH2:H++[AObj.cells [(.str []),(.int .i64 0),(.int .i64 0)]]++[AObj.cells [(.str []),(.int .i64 0),(.int .i64 0)]]=H2 at g0 g1 hl2 h1' h2'
  obtain ⟨H3,A3,p3,q1,q2⟩:=do_run h1' hm hs (by omega) c (hco c hcm) (hcs.all c hcm) hy
  obtain ⟨i1,i2⟩:=doP_inv hm hs (hco c hcm) (by omega)
  generalize hD:doP c m s=D at q1 q2 i1 i2
  have hNA:H.length ∉ A:=fun k=>by have:=hlA _ k;omega
  have hNA1:H.length+1 ∉ A:=fun k=>by have:=hlA _ k;omega
  have hNB:H.length ∉ B:=fun k=>by have:=hlB _ k;omega
  have hNB1:H.length+1 ∉ B:=fun k=>by have:=hlB _ k;omega
  have g0':=q2.stp.get g0 hNA
  have g1':=q2.stp.get g1 hNA1
  obtain ⟨s1,s1'⟩:=res_store g0' rfl D.2.1 D.2.2.1 D.2.2.2
  have e0:=get_set_eq (AObj.cells (resC D.2.1 D.2.2.1 D.2.2.2)) g0'
  have e1:=get_set_ne (AObj.cells (resC D.2.1 D.2.2.1 D.2.2.2)) (show H.length ≠ H.length+1 by omega) g1'
  have hA3:∀ a ∈ A3,a ≠ H.length∧a ≠ H.length+1∧a ∉ B:=fun a ha=>by
   rcases q2.own a ha with k | k
   ·exact ⟨fun e=>hNA (e ▸ k),fun e=>hNA1 (e ▸ k),h3 a k⟩
   ·exact ⟨by omega,by omega,fun hb=>by have:=hlB a hb;omega⟩
  have m4:MAt (H3.set H.length (.cells (resC D.2.1 D.2.2.1 D.2.2.2))) t p3 D.1.1 D.1.2 A3:=q2.at'.frame fun a ha=>List.getElem?_set_ne (hA3 a ha).1.symm
  have r4:RMAt (H3.set H.length (.cells (resC D.2.1 D.2.2.1 D.2.2.2))) u q m s B d.length:=h2'.frame fun a ha=>by
   have:=hlB a ha
   rw [List.getElem?_set_ne (by omega)]
   exact q2.stp.at' a (by omega) fun k=>h3 a k ha
  have hl3:H2.length≤H3.length:=q2.stp.len
  have hl4:(H3.set H.length (.cells (resC D.2.1 D.2.2.1 D.2.2.2))).length=H3.length:=by simp
  generalize hH4:H3.set H.length (.cells (resC D.2.1 D.2.2.1 D.2.2.2))=H4 at s1 s1' e0 e1 m4 r4 hl4
  obtain ⟨H5,B5,q5,w1,w2⟩:=model_run r4 hm hs (by omega) c (hco c hcm) (hcs.all c hcm) hy
  rw [hD] at w1 w2
  have e0':=w2.stp.get e0 hNB
  have e1':=w2.stp.get e1 hNB1
  have m5:MAt H5 t p3 D.1.1 D.1.2 A3:=m4.frame fun a ha=>w2.stp.at' a (m4.lt a ha) (hA3 a ha).2.2
  have hA3l:=m4.lt
  have hB5:∀ a ∈ B5,a ≠ H.length+1∧a ∉ A3:=fun a ha=>by
   rcases w2.own a ha with k | k
   ·exact ⟨fun e=>hNB1 (e ▸ k),fun hb=>(hA3 a hb).2.2 k⟩
   ·exact ⟨by omega,fun hb=>by have:=hA3l a hb;omega⟩
  obtain ⟨s2,s2'⟩:=res_store e1' rfl D.2.1 D.2.2.1 D.2.2.2
  have m6:MAt (H5.set (H.length+1) (.cells (resC D.2.1 D.2.2.1 D.2.2.2))) t p3 D.1.1 D.1.2 A3:=m5.frame fun a ha=>List.getElem?_set_ne (hA3 a ha).2.1.symm
  have r6:RMAt (H5.set (H.length+1) (.cells (resC D.2.1 D.2.2.1 D.2.2.2))) u q5 D.1.1 D.1.2 B5 (d.length+1):=w2.at'.frame fun a ha=>List.getElem?_set_ne (hB5 a ha).1.symm
  have e06:=get_set_ne (AObj.cells (resC D.2.1 D.2.2.1 D.2.2.2)) (show H.length+1 ≠ H.length by omega) e0'
  have ld1:aload true 3 (.ptr H.length 0) (H5.set (H.length+1) (.cells (resC D.2.1 D.2.2.1 D.2.2.2)))=some (.agg (resC D.2.1 D.2.2.1 D.2.2.2)):=by rw [aload_of e06];simp [Go.Am.apart]
  generalize hH6:H5.set (H.length+1) (.cells (resC D.2.1 D.2.2.1 D.2.2.2))=H6 at s2 s2' m6 r6 ld1
  obtain ⟨b,n1,n2⟩:=mnil m6 r6
  have u1:=mused m6 i1 i2
  have u2:=rmused r6 i1 i2
  obtain ⟨S6,hst6,_⟩:=m6.store
  obtain ⟨R6,hrf6,_⟩:=r6.sto
  obtain ⟨x1,a1,a2⟩:=List_ro hst6 i2.sto
  obtain ⟨x2,b1,b2⟩:=rList_ro hrf6 i2
  have hsf:=sameF_flat a2 b2 i2.len H6
  obtain ⟨z1,c1,c2⟩:=Left_ro hst6 i2.sto ow (by omega)
  obtain ⟨z2,d1,d2⟩:=rLeft_ro hrf6 i2 ow ho
  have hsn:=sameN_flat c2 d2 (Nat.le_trans (leftS_len ow i2.sto) (by omega)) H6
  have hcmp:=res_same D.2.1 D.2.2.1 D.2.2.2
  have hbb:∀ b:Bool,ebin .bool .neq (.bool b) (.bool b)=some (.bool false):=fun b=>by cases b <;> rfl
  have huu:(usedP D.1.1 D.1.2 != usedP D.1.1 D.1.2)=false:=by simp
  obtain ⟨H',k⟩:=ih (d++[c]) H6 p3 q5 D.1.1 D.1.2 A3 B5 (by rw [hd];simp) m6 (by rw [List.length_append,List.length_singleton];exact r6) (fun a ha hb=>(hB5 a hb).2 ha) (by rw [List.length_append,List.length_singleton];exact i1) i2
  rw [List.length_append,List.length_singleton] at k
  refine ⟨H',?_⟩
  rw [L19_TempfileCalls_L1_eq]
  simp only [go_sem,hxl,hlt,L19_TempfileCalls_J4_eq,hl1,hH2,hi,aload_cl,q1,List.getElem?_cons_zero,List.getElem?_cons_succ,s1,w1,s2,ld1,s2',hcmp,n1,n2,hbb,u1,u2,huu,a1,b1,hsf,Bool.not_true,c1,d1,hsn,L19_TempfileCalls_J5_eq,hw1]
  exact k
theorem Calls_law {limit:Int} (hlim:-9223372036854775808≤limit∧limit≤9223372036854775807) {ow:Txt} (ho:ow.length≤1048576) {x:AV} {cs:List Cl} (hx:CsV x cs) (hco:∀ c ∈ cs,ClOk c) (hl:cs.length≤1048576):∃ H',C_L19_TempfileCalls [.int .i64 limit,.str ow,x] []=some (.bool true,H'):=by
 have hol:alenD .string (.str ow)=some (.int .i64 (ow.length:Int)):=rfl
 rw [F_L19_TempfileCalls_eq]
 unfold F_L19_TempfileCalls
 obtain ⟨b,k1,k2⟩:=few_flat hx hl []
 obtain ⟨Hw,hw⟩:=awake19_run []
 cases b with
 | false=>exact ⟨Hw,by simp only [k1,go_sem,Bool.not_false,hw]⟩
 | true =>
  by_cases h100:100 < ow.length
  ·have c2:decide ((100:Int) < (ow.length:Int))=true:=by simp;omega
   exact ⟨Hw,by simp only [k1,go_sem,Bool.not_true,hol,c2,hw]⟩
  ·have c2:decide ((100:Int) < (ow.length:Int))=false:=by simp;omega
   obtain ⟨H1,q1,q2,_⟩:=New_run limit hlim []
   obtain ⟨H2,r1,r2,r3⟩:=rNew_run limit H1
   have hmin:(min (max limit 0) 262144).toNat≤262144:=by omega
   generalize hs0:(⟨(min (max limit 0) 262144).toNat,0,[],false,0⟩:Sto)=s0 at q2 r2
   have o0:ROk s0:=by rw [← hs0];exact ⟨⟨hmin,by simp [usedL],Nat.zero_le _,by simp,by simp,by simp,by simp,Nat.zero_le _⟩,fun _=>rfl⟩
   have hS:StoreAt H2 (([]:Hp).length+1) s0 [([]:Hp).length+1,([]:Hp).length]:=q2.frame fun a ha=>by
    have:=q2.lt a ha
    rw [r3,List.getElem?_append_left this]
   have hdis:∀ a ∈ [([]:Hp).length+1,([]:Hp).length],a ∉ [H1.length]:=fun a ha hb=>by
    have:=q2.lt a ha
    rw [List.mem_singleton.1 hb] at this
    omega
   have hrl:=r2.lt
   obtain ⟨H3,A3,p3,a1,a2⟩:=mopen (p:=.nilp) (m:=none) ⟨rfl,hS⟩ o0 ow ho 9000
   have r4:RMAt H3 H1.length .nilp none s0 [H1.length] 0:=⟨rfl,r2.stp a2.stp fun a ha hb=>hdis a hb ha⟩
   obtain ⟨H4,B4,p4,b1,b2⟩:=rmopen (k2:=([]:List Cl).length) r4 o0 ow (by omega) 9000
   have hA3:∀ a ∈ A3,a ∉ [H1.length]:=fun a ha hb=>by
    rcases a2.own a ha with k | k
    ·exact hdis a k hb
    ·have:=hrl a hb;omega
   have hA3l:=a2.at'.lt
   have m4:MAt H4 (([]:Hp).length+1) p3 (gOpen ow 9000 s0).2.1 (gOpen ow 9000 s0).2.2 A3:=a2.at'.frame fun a ha=>b2.stp.at' a (hA3l a ha) (hA3 a ha)
   have hd4:∀ a ∈ A3,a ∉ B4:=fun a ha hb=>by
    rcases b2.own a hb with k | k
    ·exact hA3 a ha k
    ·have:=hA3l a ha;omega
   obtain ⟨bb,n1,n2⟩:=mnil m4 b2.at'
   have hbb:∀ b:Bool,ebin .bool .neq (.bool b) (.bool b)=some (.bool false):=fun b=>by cases b <;> rfl
   have hee:((gOpen ow 9000 s0).1 != (gOpen ow 9000 s0).1)=false:=by simp
   obtain ⟨H',k⟩:=calls_loop (ow:=ow) (by omega) hx hco (k2 rfl) [] cs [] H4 p3 p4 _ _ A3 B4 rfl m4 b2.at' hd4 (gopen_inv ow 9000 (by omega) _ _) (gopen_rok o0 ow 9000)
   simp only [List.length_nil] at q1 a1 k
   refine ⟨H',?_⟩
   simp only [k1,go_sem,Bool.not_true,hol,c2,L19_TempfileCalls_J1_eq,q1,r1,a1,b1,List.getElem?_cons_zero,List.getElem?_cons_succ,hee,n1,n2,hbb,L19_TempfileCalls_J2_eq]
   exact k
end Go.Am
