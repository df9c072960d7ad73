/-
  The store in the machine: failing at an operation, starting anew.
-/
import Derived.Test.YtebjpfbenjgglaaDoorTdAx
import Derived.Test.YtebjpfbenjgglaaDoorTdLcx
namespace Go.Am
set_option linter.unusedSimpArgs false
set_option linter.unusedVariables false
set_option linter.unusedSectionVars false
set_option maxRecDepth 100000

theorem FailAfter_run {H : Hp} {o : Nat} {s : Sto} {A : List Nat} (h : StoreAt H o s A) (hc : s.crashed = false) (n : Nat) (hn : n ≤ 9223372036854775807) :
    ∃ H',C_store_Store_FailAfter [.ptr o 0,.int .i64 (n:Int)] H=some (.tuple [],H')∧StoRes H H' o { s with count:=n } A A:=by
 obtain ⟨m,clk,ds,h,rfl⟩:=h
 have hnil:ebin (.pointer 68) .neq (.ptr o 0) .nilp=some (.bool true):=rfl
 have hcl:H[o]?=some (.cells (stC m s)):=h.cells
 have l4:=ldn hcl 4 (v:=.bool s.crashed) rfl
 rw [hc] at l4
 have hmx:amax2 (.int .i64 (n:Int)) (.int .i64 0)=some (.int .i64 (n:Int)):=by
  simp [amax2];omega
 have s5:=stn hcl 5 (v:=.int .i64 (n:Int)) rfl rfl (by simp [stC])
 have g:=get_set_eq (AObj.cells (List.set (stC m s) 5 (.int .i64 (n:Int)))) hcl
 have hS:Stp [o] H (H.set o (.cells (List.set (stC m s) 5 (.int .i64 (n:Int))))):=Stp.set _ _ (by simp)
 refine ⟨_,?_,(h.cell (s':={ s with count:=n }) hS g rfl).res hS⟩
 rw [F_store_Store_FailAfter_eq]
 unfold F_store_Store_FailAfter
 simp only [hnil,go_sem,Nat.zero_add,l4,Bool.not_false,hmx,s5]
theorem TxAt.cut {H : Hp} {x : AV} {l : Txt} (h : TxAt H x l) {n : Nat} (hn : n ≤ l.length) :
    ∃ x',asliceV 1 x none (some (.int .i64 (n:Int))) (some (.int .i64 (n:Int)))=some x'∧tokA x'=[]∧(∀ H',TxAt H' x' (l.take n))∧x'.cells=[x']∧x'.known=true:=by
 have hb:abounds l.length l.length none (some (.int .i64 (n:Int))) (some (.int .i64 (n:Int)))=some (0,n,n):=by
  rw [abounds_hm (len:=l.length) (cap:=l.length) .i64 .i64 (by omega) (by omega) (by omega)]
  simp
 have key:∀ t,asliceV 1 (.vs 1 t (l.map bv)) none (some (.int .i64 (n:Int))) (some (.int .i64 (n:Int)))=some (.vs 1 .clip ((l.take n).map bv)):=fun t=>by
  unfold asliceV
  dsimp only
  rw [if_pos rfl,List.length_map,hb]
  simp
 rcases h with ⟨rfl,rfl⟩ | ⟨t,e,rfl,ht⟩ | rfl
 ·have:n=0:=by simpa using hn
  subst this
  exact ⟨.nils,by unfold asliceV;dsimp only;rw [show abounds 0 0 none (some (.int .i64 ((0:Nat):Int))) (some (.int .i64 ((0:Nat):Int)))=some (0,0,0) from by simpa using hb],rfl,fun _=>.inl ⟨rfl,rfl⟩,rfl,rfl⟩
 ·exact ⟨_,key _,rfl,fun _=>.inr (.inr rfl),rfl,rfl⟩
 ·exact ⟨_,key _,rfl,fun _=>.inr (.inr rfl),rfl,rfl⟩
theorem rem8 (i:Nat):ibin .rem (.int .i64 (i:Int)) (.int .i64 8)=some (.int .i64 ((i % 8:Nat):Int)):=by
 unfold ibin ashift
 simp only [if_true,intbin]
 rw [if_neg (by omega)]
 congr 2
theorem StoRes.trans {H H1 H2:Hp} {o:Nat} {s1 s2:Sto} {A A1 A2:List Nat} (h:StoRes H H1 o s1 A A1) (k:StoRes H1 H2 o s2 A1 A2):StoRes H H2 o s2 A A2 :=
 ⟨k.at',h.stp.trans k.stp (fun _ h=>h) (fun a ha=>h.own a ha),fun a ha=>(k.own a ha).elim (h.own a) fun hh=>.inr (Nat.le_trans h.stp.len hh)⟩
end Go.Am
namespace Go.Am
set_option linter.unusedSimpArgs false
set_option linter.unusedVariables false
set_option linter.unusedSectionVars false
set_option maxRecDepth 100000

def moreN (k i:Nat):Nat:=k / 2 ^ (8 * (i % 8)) % 256
def cutF (k i:Nat) (f:Fil):Fil:=⟨f.name,f.text.take (f.syn+min (moreN k i) (f.text.length - f.syn)),f.syn+min (moreN k i) (f.text.length - f.syn)⟩
def cutL (k:Nat):Nat→List Txt→List Fil→List Fil
 | _,[],l=>l
 | i,n :: r,l=>cutL k (i+1) r (updF l n (cutF k i))
def Sto.restart (s:Sto) (k:Nat):Sto:={ s with crashed:=false,count:=0,files:=cutL k 0 (sortK (s.files.map Fil.name)) s.files }
theorem updF_names (l:List Fil) (n:Txt) (u:Fil→Fil) (h:∀ f,(u f).name=f.name):(updF l n u).map Fil.name=l.map Fil.name:=by
 induction l with
 | nil=>rfl
 | cons f l ih =>
  rw [updF]
  split
  ·simp [h]
  ·simp [ih]
theorem updF_used (l:List Fil) (n:Txt) (u:Fil→Fil) (h:∀ f,(u f).text.length≤f.text.length):usedL (updF l n u)≤usedL l:=by
 induction l with
 | nil=>exact Nat.le_refl _
 | cons f l ih =>
  rw [updF]
  split
  ·have:=h f;simp only [usedL];omega
  ·simp only [usedL];omega
theorem updF_all {P:Fil→Prop} (l:List Fil) (n:Txt) (u:Fil→Fil) (hl:∀ f ∈ l,P f) (h:∀ f,P f→P (u f)):∀ f ∈ updF l n u,P f:=by
 induction l with
 | nil=>intro f hf;cases hf
 | cons x l ih =>
  rw [updF]
  split
  ·intro f hf
   rcases List.mem_cons.1 hf with rfl | hf
   ·exact h x (hl x (by simp))
   ·exact hl f (by simp [hf])
  ·intro f hf
   rcases List.mem_cons.1 hf with rfl | hf
   ·exact hl _ (by simp)
   ·exact ih (fun g hg=>hl g (by simp [hg])) f hf
theorem cutF_le (k i:Nat) (f:Fil):(cutF k i f).text.length≤f.text.length:=by simp [cutF];omega
theorem cut_ok {s:Sto} (hk:StoOk s) (k i:Nat) (n:Txt):StoOk { s with files:=updF s.files n (cutF k i) }:=by
 have h1:=updF_names s.files n (cutF k i) fun _=>rfl
 have h2:=updF_used s.files n (cutF k i) (cutF_le k i)
 have h3:=hk.used
 have h4:=hk.len
 refine ⟨hk.limit,Nat.le_trans h2 h3,hk.peak,updF_all s.files n _ hk.name fun f h=>h,by show ((updF s.files n (cutF k i)).map Fil.name).Nodup;rw [h1];exact hk.nd,updF_all (P:=fun f=>f.syn≤f.text.length) s.files n _ hk.syn fun f h=>?_,?_,hk.count⟩
 ·show f.syn+min (moreN k i) (f.text.length - f.syn)≤(f.text.take (f.syn+min (moreN k i) (f.text.length - f.syn))).length
  rw [List.length_take]
  omega
 ·show (updF s.files n (cutF k i)).length≤64
  have:=congrArg List.length h1
  rw [List.length_map,List.length_map] at this
  omega
theorem restartk_step {H : Hp} {o : Nat} {s : Sto} {A : List Nat} (h : StoreAt H o s A) (hk : StoOk s) (k : Nat) {x : AV} {ns : List Txt} (hx : SS x ns) {i : Nat} {n : Txt} (hi : ns[i]? = some n) (hi64 : i ≤ 64) {f : Fil} (hn : getF s.files n = some f) (nl : AV) (H0 : Hp) :
    ∃ H' A',store_Store_Restart_J2 (.ptr o 0) (.int .u64 (k:Int)) x nl (.int .i64 (i:Int)) (.bool true) H0 H=store_Store_Restart_J3 (.ptr o 0) (.int .u64 (k:Int)) x nl (.int .i64 (i:Int)) H0 H'∧StoRes H H' o { s with files:=updF s.files n (cutF k i) } A A':=by
 obtain ⟨m,clk,ds,h,rfl⟩:=h
 have hidx:=SS.idx hx hi
 have l3:=ldn h.cells 3 (v:=.map m) rfl
 rcases h.look n with ⟨k,_⟩ | ⟨a,d,b,rfl,c3,c4,c5,c6⟩
 ·rw [hn] at k;cases k
 obtain ⟨k1,hd,k3,k4⟩:=h.mid
 have hdm:d.fil ∈ s.files:=by rw [← h.files];simp
 have hsd:=hk.syn _ hdm
 have hused:=hk.used
 have hlim:=hk.limit
 have hle:d.fil.text.length≤usedL s.files:=by rw [← h.files,List.map_append,List.map_cons,usedL_mid];omega
 have hfu:updF s.files n (cutF k i)=a.map FD.fil++cutF k i d.fil :: b.map FD.fil:=by
  rw [← h.files]
  exact updF_map a d b n (cutF k i) c3 c4
 generalize hz:d.fil.syn+min (moreN k i) (d.fil.text.length - d.fil.syn)=z
 have hzl:z≤d.fil.text.length:=by omega
 have hcut:cutF k i d.fil=⟨d.fil.name,d.fil.text.take z,z⟩:=by unfold cutF;rw [hz]
 have hnu:usedL (a.map FD.fil++cutF k i d.fil :: b.map FD.fil)=usedL s.files - (d.fil.text.length - z):=by
  have hf:usedL s.files=usedL (a.map FD.fil++d.fil :: b.map FD.fil):=by rw [← h.files,List.map_append,List.map_cons]
  rw [hf,usedL_mid,usedL_mid,hcut]
  show _+((d.fil.text.take z).length+_)=_
  rw [List.length_take]
  omega
 have m0:=ldn hd.cells 0 (v:=d.tx) rfl
 have m1:=ldn hd.cells 1 (v:=.int .i64 (d.fil.syn:Int)) rfl
 have hlen:=hd.text.len 5
 have hrem:ibin .rem (.int .i64 (i:Int)) (.int .i64 8)=some (.int .i64 ((i % 8:Nat):Int)):=rem8 i
 have hmul:ibin .mul (.int .i64 8) (.int .i64 ((i % 8:Nat):Int))=some (.int .i64 ((8 * (i % 8):Nat):Int)):=by
  have:IntKind.i64.wrap (8 * ((i % 8:Nat):Int))=((8 * (i % 8):Nat):Int):=by rw [wrap64 (by omega) (by omega)];omega
  simp only [go_sem,this]
 have hb:min (8 * (i % 8)) IntKind.u64.bits=8 * (i % 8):=Nat.min_eq_left (by show 8 * (i % 8)≤64;omega)
 have hshr:ibin .shr (.int .u64 (k:Int)) (.int .i64 ((8 * (i % 8):Nat):Int))=some (.int .u64 ((k / 2 ^ (8 * (i % 8)):Nat):Int)):=by
  rw [ibin_shr]
  unfold shrK
  rw [hb,Int.fdiv_eq_ediv_of_nonneg _ (Int.pow_nonneg (by decide))]
  have:(2:Int) ^ (8 * (i % 8))=((2 ^ (8 * (i % 8)):Nat):Int):=by simp
  rw [this,← Int.natCast_ediv]
 have hrem2:ibin .rem (.int .u64 ((k / 2 ^ (8 * (i % 8)):Nat):Int)) (.int .u64 256)=some (.int .u64 ((moreN k i:Nat):Int)):=by
  unfold ibin ashift
  simp only [if_true,intbin]
  rw [if_neg (by omega)]
  congr 2
 have hmr:moreN k i < 256:=Nat.mod_lt _ (by decide)
 have hcv:cvInt .i64 (.int .u64 ((moreN k i:Nat):Int))=some (.int .i64 ((moreN k i:Nat):Int)):=by
  unfold cvInt
  dsimp only
  rw [wrap64 (by omega) (by omega)]
 have hs0:IntKind.i64.wrap ((d.fil.text.length:Int) - (d.fil.syn:Int))=((d.fil.text.length - d.fil.syn:Nat):Int):=by rw [wrap64 (by omega) (by omega)];omega
 have hmin:amin2 (.int .i64 ((moreN k i:Nat):Int)) (.int .i64 ((d.fil.text.length - d.fil.syn:Nat):Int))=some (.int .i64 ((min (moreN k i) (d.fil.text.length - d.fil.syn):Nat):Int)):=by
  simp [amin2];omega
 have ha0:IntKind.i64.wrap ((d.fil.syn:Int)+((min (moreN k i) (d.fil.text.length - d.fil.syn):Nat):Int))=(z:Int):=by rw [wrap64 (by omega) (by omega)];omega
 have hs1:IntKind.i64.wrap ((d.fil.text.length:Int) - (z:Int))=((d.fil.text.length - z:Nat):Int):=by rw [wrap64 (by omega) (by omega)];omega
 have hcl:H[o]?=some (.cells (stC m s)):=h.cells
 have l1:=ldn hcl 1 (v:=.int .i64 (usedL s.files:Int)) rfl
 have hu0:IntKind.i64.wrap ((usedL s.files:Int) - ((d.fil.text.length - z:Nat):Int))=((usedL s.files - (d.fil.text.length - z):Nat):Int):=by rw [wrap64 (by omega) (by omega)];omega
 have s1:=stn hcl 1 (v:=.int .i64 ((usedL s.files - (d.fil.text.length - z):Nat):Int)) rfl rfl (by simp [stC])
 have g1:=get_set_eq (AObj.cells (List.set (stC m s) 1 (.int .i64 ((usedL s.files - (d.fil.text.length - z):Nat):Int)))) hcl
 have hko:=k3 d.f (by simp [FD.own])
 have hd1:=get_set_ne (AObj.cells (List.set (stC m s) 1 (.int .i64 ((usedL s.files - (d.fil.text.length - z):Nat):Int)))) (fun e=>hko.1 e.symm) hd.cells
 obtain ⟨x',p1,p2,p3,p4,p5⟩:=hd.text.cut (n:=z) hzl
 have hSa:Stp [o] H (H.set o (.cells (List.set (stC m s) 1 (.int .i64 ((usedL s.files - (d.fil.text.length - z):Nat):Int))))):=Stp.set _ _ (by simp)
 generalize hH1:H.set o (.cells (List.set (stC m s) 1 (.int .i64 ((usedL s.files - (d.fil.text.length - z):Nat):Int))))=H1 at s1 g1 hd1 hSa
 have m0':=ldn hd1 0 (v:=d.tx) rfl
 have s2:=stn hd1 0 (v:=x') p4 p5 (by simp)
 have g2:=get_set_eq (AObj.cells (List.set [d.tx,.int .i64 (d.fil.syn:Int)] 0 x')) hd1
 have s3:=stn g2 1 (v:=.int .i64 (z:Int)) rfl rfl (by simp)
 have g3:=get_set_eq (AObj.cells (List.set (List.set [d.tx,.int .i64 (d.fil.syn:Int)] 0 x') 1 (.int .i64 (z:Int)))) g2
 generalize hH2:H1.set d.f (.cells (List.set [d.tx,.int .i64 (d.fil.syn:Int)] 0 x'))=H2 at s2 g2 s3 g3
 generalize hH3:H2.set d.f (.cells (List.set (List.set [d.tx,.int .i64 (d.fil.syn:Int)] 0 x') 1 (.int .i64 (z:Int))))=H3 at s3 g3
 have hSb:Stp [d.f] H1 H3:=by
  rw [← hH3,← hH2]
  exact (Stp.set _ _ (by simp)).trans (Stp.set _ _ (by simp)) (fun _ h=>h) fun _ h=>.inl h
 have hS:Stp (o :: d.own) H H3:=hSa.trans hSb (fun a ha=>by simp [List.mem_singleton.1 ha]) fun a ha=>.inl (by simp [FD.own,List.mem_singleton.1 ha])
 have hom:=h.om
 have hto:({ d with fil:=cutF k i d.fil,tx:=x' }:FD).own=[d.f]:=by simp [FD.own,p2]
 have hat:=h.upd (d':={ d with fil:=cutF k i d.fil,tx:=x' }) (s':={ s with files:=updF s.files n (cutF k i) }) (H':=H3) (by rw [hSb.get g1 (by simpa using fun e=>hko.1 e.symm)];show some (AObj.cells [_,_,_,_,_,_])=some (AObj.cells [_,.int .i64 ((usedL (updF s.files n (cutF k i)):Nat):Int),_,_,_,_]);rw [hfu,hnu]) (by rw [hSb.at' m (lt_of_get (hSa.get h.map (by simpa using Ne.symm hom))) (by simpa using fun e=>hko.2 e.symm),hSa.get h.map (by simpa using Ne.symm hom),h.map]) rfl hfu
  ⟨by rw [g3,hcut];rfl,by have:=p3 H3;rw [hcut];exact this⟩ hS (by rw [hto];simp) (fun y hy=>.inl (by rw [hto] at hy;simp [FD.own,List.mem_singleton.1 hy]))
 refine ⟨H3,_,?_,⟨⟨m,clk,_,hat,rfl⟩,hS.mono fun a ha=>?_,fun y hy=>?_⟩⟩
 ·rw [store_Store_Restart_J2_eq]
  simp only [go_sem,hidx,aload_vpc,Nat.zero_add,l3,c6,hrem,hmul,hshr,hrem2,hcv,m1,m0,hlen,hs0,hmin,ha0,hs1,l1,hu0,s1,m0',p1,s2,s3]
 ·rcases List.mem_cons.1 ha with e | ha
  ·simp [e]
  ·rw [List.mem_cons,List.mem_cons,List.flatMap_append,List.flatMap_cons]
   exact .inr (.inr (by simp [ha]))
 ·rw [List.mem_cons,List.mem_cons,List.flatMap_append,List.flatMap_cons,hto] at hy
  refine .inl ?_
  rw [List.mem_cons,List.mem_cons,List.flatMap_append,List.flatMap_cons]
  rcases hy with e | e | hy
  ·exact .inl e
  ·exact .inr (.inl e)
  ·refine .inr (.inr ?_)
   simp only [List.mem_append] at hy ⊢
   rcases hy with k | k | k
   ·exact .inl k
   ·exact .inr (.inl (by simp [FD.own,List.mem_singleton.1 k]))
   ·exact .inr (.inr k)
theorem restartk_loop {o : Nat} (k : Nat) {x : AV} {ns : List Txt} (hx : SS x ns) (hl : ns.length ≤ 64) (H0 : Hp) : ∀ (r d : List Txt) (H : Hp) (A : List Nat) (s : Sto), ns = d ++ r → StoreAt H o s A → StoOk s → (∀ n ∈ ns, ∃ f, getF s.files n = some f) →
    ∃ H' A',store_Store_Restart_L1 (.ptr o 0) (.int .u64 (k:Int)) x (.int .i64 (ns.length:Int)) (.int .i64 (d.length:Int)) H0 H=some (.tuple [],H')∧StoRes H H' o { s with files:=cutL k d.length r s.files } A A'∧StoOk { s with files:=cutL k d.length r s.files }:=by
 intro r
 induction r with
 | nil =>
  intro d H A s hd h hk hns
  rw [List.append_nil] at hd
  subst hd
  have hlt:decide ((ns.length:Int) < (ns.length:Int))=false:=by simp
  refine ⟨H,A,?_,⟨h,Stp.refl _ _,fun a ha=>.inl ha⟩,hk⟩
  rw [store_Store_Restart_L1_eq]
  simp only [go_sem,hlt]
 | cons n r ih =>
  intro d H A s hd h hk hns
  have hlen2:ns.length=d.length+(r.length+1):=by rw [hd];simp
  have hlt:decide ((d.length:Int) < (ns.length:Int))=true:=by simp;omega
  have hw1:IntKind.i64.wrap ((d.length:Int)+1)=((d.length+1:Nat):Int):=by rw [wrap64 (by omega) (by omega)];omega
  have hin:ns[d.length]?=some n:=by rw [hd,List.getElem?_append_right (Nat.le_refl _)];simp
  obtain ⟨f,hf⟩:=hns n (by rw [hd];simp)
  obtain ⟨H1,A1,q1,q2⟩:=restartk_step h hk k hx hin (by omega) hf (.int .i64 (ns.length:Int)) H0
  have hnm:=updF_names s.files n (cutF k d.length) fun _=>rfl
  obtain ⟨H2,A2,r1,r2,r3⟩:=ih (d++[n]) H1 A1 { s with files:=updF s.files n (cutF k d.length) } (by rw [hd];simp) q2.at' (cut_ok hk k d.length n) (fun m hm=>by
   obtain ⟨g,hg⟩:=hns m hm
   refine getF_mem ?_
   show m ∈ (updF s.files n (cutF k d.length)).map Fil.name
   rw [hnm]
   obtain ⟨a,b,e,h1,_⟩:=getF_split hg
   rw [e,← h1]
   simp)
  rw [List.length_append,List.length_singleton] at r1 r2 r3
  refine ⟨H2,A2,?_,q2.trans r2,r3⟩
  rw [store_Store_Restart_L1_eq]
  simp only [go_sem,hlt,q1,store_Store_Restart_J3_eq,hw1]
  exact r1
theorem Restart_run {H : Hp} {o : Nat} {s : Sto} {A : List Nat} (h : StoreAt H o s A) (hk : StoOk s) (k : Nat) :
    ∃ H' A',C_store_Store_Restart [.ptr o 0,.int .u64 (k:Int)] H=some (.tuple [],H')∧StoRes H H' o (s.restart k) A A'∧StoOk (s.restart k):=by
 obtain ⟨m,clk,ds,h,rfl⟩:=h
 have hnil:ebin (.pointer 68) .eql (.ptr o 0) .nilp=some (.bool false):=rfl
 have hcl:H[o]?=some (.cells (stC m s)):=h.cells
 have s4:=stn hcl 4 (v:=.bool false) rfl rfl (by simp [stC])
 have g4:=get_set_eq (AObj.cells (List.set (stC m s) 4 (.bool false))) hcl
 have s5:=stn g4 5 (v:=.int .i64 0) rfl rfl (by simp [stC])
 have g5:=get_set_eq (AObj.cells (List.set (List.set (stC m s) 4 (.bool false)) 5 (.int .i64 0))) g4
 generalize hH1:H.set o (.cells (List.set (stC m s) 4 (.bool false)))=H1 at s4 g4 s5 g5
 generalize hH2:H1.set o (.cells (List.set (List.set (stC m s) 4 (.bool false)) 5 (.int .i64 0)))=H2 at s5 g5
 have hS:Stp [o] H H2:=by
  rw [← hH2,← hH1]
  exact (Stp.set _ _ (by simp)).trans (Stp.set _ _ (by simp)) (fun _ h=>h) fun _ h=>.inl h
 have h2:=h.cell (s':={ s with crashed:=false,count:=0 }) hS g5 rfl
 have hk2:StoOk { s with crashed:=false,count:=0 }:=⟨hk.limit,hk.used,hk.peak,hk.name,hk.nd,hk.syn,hk.len,by simp⟩
 obtain ⟨x,q1,q2⟩:=names_run h2 hk2
 have hnl:(sortK (s.files.map Fil.name)).length≤64:=by rw [(sortK_perm _).length_eq,List.length_map];exact hk.len
 obtain ⟨H',A',r1,r2,r3⟩:=restartk_loop k q2 hnl H _ [] H2 _ { s with crashed:=false,count:=0 } rfl ⟨m,clk,ds,h2,rfl⟩ hk2 (fun n hn=>getF_mem ((sortK_mem _ _).1 hn))
 refine ⟨H',A',?_,(h2.res hS).trans r2,r3⟩
 rw [F_store_Store_Restart_eq]
 unfold F_store_Store_Restart
 simp only [hnil,go_sem,store_Store_Restart_J1_eq,Nat.zero_add,s4,s5,q1,SS.len q2 9]
 exact r1
end Go.Am
namespace Go.Am
set_option linter.unusedSimpArgs false
set_option linter.unusedVariables false
set_option linter.unusedSectionVars false
set_option maxRecDepth 100000

theorem RowN.stp {N:Nat} {H H':Hp} {x:AV} {l:List AV} {A:List Nat} (h:RowN N H 1 x l) (hs:Stp A H H') (hA:∀ a ∈ A,a < N):RowN N H' 1 x l:=by
 rcases h with k | ⟨t,e,k1,k2,k3⟩
 ·exact .inl k
 ·exact .inr ⟨t,e,k1,hs.get k2 fun hh=>by have:=hA t hh;omega,k3⟩
theorem RowN.ss {N:Nat} {H:Hp} {x:AV} {l:List Txt} (h:RowN N H 1 x (l.map AV.str)):SS x l:=h.imp id fun ⟨t,e,a,_⟩=>⟨_,a⟩
section
variable {o t N:Nat} {tm:Tmp} {s:Sto} {A:List Nat} {n:Txt} {f:Fil} {ls:List Txt} (hm:TmpOk tm) (hk:StoOk s) (hf:tmFind tm n=0) (hc:s.crashed=false) (h0:s.count=0) (hg:getF s.files n=some f) (ht:f.text=encS ls) (hfit:fitsR ls=true) (hlen:f.text.length≤262144) (hl:ls.length≤1048576) (hA:∀ a ∈ A,a < N)
include hm hk hf hc h0 hg ht hfit hlen hl hA
theorem lines_loop (H0 : Hp) : ∀ (r d : List Txt) (x : AV) (H : Hp), ls = d ++ r → SysAt H o t tm s A → RowN N H 1 x (d.map AV.str) → N ≤ H.length →
    ∃ y H',L19_lines_L1 (.ptr o 0) (.str n) (.int .i64 (ls.length:Int)) x (.int .i64 ((encS d).length:Int)) H0 H=some (.tuple [y,.bool true],H')∧SS y ls∧SysAt H' o t tm s A:=by
 have htk:=tick_still hc h0
 intro r
 induction r with
 | nil =>
  intro d x H hd h hx hN
  rw [List.append_nil] at hd
  subst hd
  obtain ⟨H1,p1,p2,p3⟩:=TRead_run h hm hk n hf (by rw [htk];exact hc) hg (p:=encS ls) (rest:=[]) (by rw [ht];simp [encS]) rfl hlen
  rw [htk] at p2
  dsimp only at p1
  have hxl:=SS.len (RowN.ss hx) 9
  have hle:decide ((ls.length:Int)≤(ls.length:Int))=true:=by simp
  have e5:((5:Int) == 5)=true:=rfl
  have e0:((0:Int) == 0)=true:=rfl
  have ee:(([]:Txt) == [])=true:=rfl
  refine ⟨x,H1,?_,RowN.ss hx,p2⟩
  rw [L19_lines_L1_eq]
  simp only [go_sem,hxl,hle,L19_lines_J2_eq,p1,List.getElem?_cons_zero,List.getElem?_cons_succ,e5,ee,e0]
 | cons l r ih =>
  intro d x H hd h hx hN
  have hld:ls.length=d.length+(r.length+1):=by rw [hd];simp
  have hfr:fitsR (l :: r)=true:=by
   rw [hd] at hfit
   unfold fitsR at hfit ⊢
   rw [List.all_append,Bool.and_eq_true] at hfit
   exact hfit.2
  obtain ⟨H1,p1,p2,p3⟩:=TRead_run h hm hk n hf (by rw [htk];exact hc) hg (p:=encS d) (rest:=l :: r) (by rw [ht,hd,encS_app]) hfr hlen
  rw [htk] at p2
  dsimp only at p1
  have hed:encS (d++[l])=encS d++recS l:=by rw [encS_app];simp [encS]
  rw [← hed] at p1
  have hx1:RowN N H1 1 x (d.map AV.str):=hx.stp p3 hA
  have hN1:N≤H1.length:=Nat.le_trans hN p3.len
  have hone:(setElems 1 [(0,.str l)] [(.str [])]).map (AV.vs 1 .clip)=some (.vs 1 .clip [.str l]):=one_str _
  obtain ⟨x',H2,q1,q2,q3,q4,_⟩:=hx1.app hN1 16 (.vs 1 .clip [.str l]) [.str l] rfl (by simp;omega)
  have h2:SysAt H2 o t tm s A:=p2.frame fun a ha=>q4 a (hA a ha)
  obtain ⟨y,H',k1,k2,k3⟩:=ih (d++[l]) x' H2 (by rw [hd];simp) h2 (by rw [List.map_append];exact q2) q3
  have hxl:=SS.len (RowN.ss hx) 9
  have hle:decide ((d.length:Int)≤(ls.length:Int))=true:=by simp;omega
  have e5:((0:Int) == 5)=false:=rfl
  have e0:((0:Int) != 0)=false:=rfl
  have hgt:decide (((encS (d++[l])).length:Int)≤((encS d).length:Int))=false:=by
   rw [decide_eq_false_iff_not,hed,List.length_append,recS_len]
   omega
  refine ⟨y,H',?_,k2,k3⟩
  rw [L19_lines_L1_eq]
  simp only [go_sem,hxl,hle,L19_lines_J2_eq,p1,List.getElem?_cons_zero,List.getElem?_cons_succ,e5,L19_lines_J3_eq,e0,hgt,L19_lines_J4_eq,hone,q1]
  exact k1
theorem lines_run {H : Hp} (h : SysAt H o t tm s A) (hN : N ≤ H.length) :
    ∃ y H',C_L19_lines [.ptr o 0,.str n,.int .i64 (ls.length:Int)] H=some (.tuple [y,.bool true],H')∧SS y ls∧SysAt H' o t tm s A:=by
 obtain ⟨y,H',k1,k2,k3⟩:=lines_loop hm hk hf hc h0 hg ht hfit hlen hl hA H ls [] .nils H rfl h (.inl ⟨rfl,rfl⟩) hN
 refine ⟨y,H',?_,k2,k3⟩
 rw [F_L19_lines_eq]
 unfold F_L19_lines
 exact k1
end
theorem sameN_loop {x z : AV} {l : List Txt} (hx : SS x l) (hz : SS z l) (hl : l.length ≤ 1048576) (H0 H : Hp) : ∀ (r d : List Txt), l = d ++ r →
    L19_sameNames_L1 x z (.int .i64 (d.length:Int)) H0 H=some (.bool true,H):=by
 intro r
 induction r with
 | nil =>
  intro d hd
  rw [List.append_nil] at hd
  subst hd
  have hlt:decide ((l.length:Int) < (l.length:Int))=false:=by simp
  rw [L19_sameNames_L1_eq]
  simp only [go_sem,hx.len 9,hlt,L19_sameNames_J2_eq]
 | cons s r ih =>
  intro d hd
  have hlen:l.length=d.length+(r.length+1):=by rw [hd];simp
  have hlt:decide ((d.length:Int) < (l.length:Int))=true:=by simp;omega
  have hw1:IntKind.i64.wrap ((d.length:Int)+1)=((d.length+1:Nat):Int):=by rw [wrap64 (by omega) (by omega)];omega
  have hi:l[d.length]?=some s:=by rw [hd,List.getElem?_append_right (Nat.le_refl _)];simp
  have hne:(!(s == s))=false:=by simp
  have k:=ih (d++[s]) (by rw [hd];simp)
  rw [List.length_append,List.length_singleton] at k
  rw [L19_sameNames_L1_eq]
  simp only [go_sem,hx.len 9,hlt,L19_sameNames_J3_eq,SS.idx hx hi,SS.idx hz hi,aload_vpc,hne,L19_sameNames_J4_eq,hw1]
  exact k
theorem sameN_flat {x z:AV} {l:List Txt} (hx:SS x l) (hz:SS z l) (hl:l.length≤1048576) (H:Hp):flatC C_L19_sameNames [x,z] H=some (.bool true,H):=by
 obtain ⟨x',hx1,hx2⟩:=hx.closed [] 0 4
 obtain ⟨z',hz1,hz2⟩:=hz.closed [] 0 4
 refine flat2 hx1 hz1 (H1:=[]) ?_ rfl
 have hne:((l.length:Int) != (l.length:Int))=false:=by simp
 rw [F_L19_sameNames_eq]
 unfold F_L19_sameNames
 simp only [go_sem,hx2.len 9,hz2.len 9,hne,L19_sameNames_J1_eq]
 exact sameN_loop hx2 hz2 hl [] [] l [] rfl
end Go.Am
namespace Go.Am
set_option linter.unusedSimpArgs false
set_option linter.unusedVariables false
set_option linter.unusedSectionVars false
set_option maxRecDepth 100000

theorem SS.lo {x:AV} {l:List Str} (h:SS x l) {n:Nat} (hn:n≤l.length):∃ x',asliceV 1 x (some (.int .i64 (n:Int))) none none=some x'∧SS x' (l.drop n):=by
 rcases h with ⟨rfl,h0⟩ | ⟨tok,rfl⟩
 ·have:l=[]:=List.map_eq_nil_iff.1 h0
  subst this
  have hn0:n=0:=by simpa using hn
  subst hn0
  exact ⟨.nils,asliceV_nils_lo 1 .i64,.inl ⟨rfl,rfl⟩⟩
 ·exact ⟨_,asliceV_lo 1 tok .i64 (by omega) (by simp;omega),.inr ⟨tok,by simp⟩⟩
theorem asliceV_hi {l:List AV} {n:Nat} (z:Nat) (t:Tok) (h1:n≤l.length):∃ t',asliceV z (.vs z t l) none (some (.int .i64 (n:Int))) none=some (.vs z t' (l.take n)):=by
 refine ⟨if n=l.length then t else .no,?_⟩
 simp only [asliceV]
 delta abounds
 simp [abound,h1]
theorem SS.hi {x:AV} {l:List Str} (h:SS x l) {n:Nat} (hn:n≤l.length):∃ x',asliceV 1 x none (some (.int .i64 (n:Int))) none=some x'∧SS x' (l.take n):=by
 rcases h with ⟨rfl,h0⟩ | ⟨tok,rfl⟩
 ·have:l=[]:=List.map_eq_nil_iff.1 h0
  subst this
  have hn0:n=0:=by simpa using hn
  subst hn0
  refine ⟨.nils,?_,.inl ⟨rfl,by simp⟩⟩
  simp only [asliceV]
  delta abounds
  simp [abound]
 ·obtain ⟨t',h1⟩:=asliceV_hi 1 tok (l:=l.map AV.str) (n:=n) (by simp;omega)
  exact ⟨_,h1,.inr ⟨t',by simp⟩⟩

def rA:Txt:=[46,116,109,112,46,97,46,49]
def rB:Txt:=[46,116,109,112,46,97,46,50]
abbrev rT (nm sl:List Txt) (k:Nat):Tmp:=⟨[97],nm,sl,20000,k,false⟩
abbrev rS (pk:Nat) (fs:List Fil) (cr:Bool) (c:Nat):Sto:=⟨262144,pk,fs,cr,c⟩
theorem rA_eq:rA=tmpName [97] (0+1):=by kernel_rfl
theorem rB_eq:rB=tmpName [97] (1+1):=by kernel_rfl
theorem rA_ok:nameB rA=true:=by kernel_rfl
theorem rB_ok:nameB rB=true:=by kernel_rfl
theorem rAB:rA ≠ rB:=by decide
theorem rBA:rB ≠ rA:=by decide
theorem costR_lines (l:List Txt):costR l=linesN l+6 * l.length:=by
 induction l with
 | nil=>rfl
 | cons s l ih=>simp only [costR,linesN,ih,List.length_cons];omega
theorem two_ok {pk:Nat} {a b:Txt} {i j c:Nat} (cr:Bool) (hp:pk≤262144) (ha:a.length+b.length≤262144) (hi:i≤a.length) (hj:j≤b.length) (hc:c≤9223372036854775807):StoOk (rS pk [⟨rA,a,i⟩,⟨rB,b,j⟩] cr c) :=
 ⟨Nat.le_refl _,by simp [usedL];omega,hp,by simp [rA_ok,rB_ok],by simp [rAB],by simp [hi,hj],by simp,hc⟩
theorem rT_ok (nm sl:List Txt) (k:Nat) (h:nm.length≤k) (hk:k≤2):TmpOk (rT nm sl k):=⟨by show 1≤16;omega,by show 20000≤9223372036854775807;omega,h,by show k≤1000000;omega⟩
theorem run_write2 {tm : Tmp} {s : Sto} {n : Txt} (hc : s.crashed = false) (h0 : s.count = 0) (hf : tmFind tm n = 0) (hs : n ∉ tm.sld) {f : Fil} (hg : getF s.files n = some f) {l : List Txt} (hfit : fitsR l = true) (hl : usedL s.files + costR l ≤ s.limit) (ht : usedL s.files + costR l ≤ tm.limit) :
    tmWrite tm s n l=(0,{ s with files:=updF s.files n fun f=>{ f with text:=f.text++encS l },peak:=max s.peak (usedL s.files+costR l) }):=by
 have hun:=usedN_le tm.names s.files
 unfold tmWrite
 rw [if_neg (by simp [hf]),if_neg hs,if_neg (by simp [hfit]),if_neg (by unfold tmUsed;omega)]
 unfold Sto.append
 rw [tick_still hc h0,if_neg (by simp [hc]),hg]
 dsimp only
 rw [encS_len,if_neg (by omega)]
theorem getF_updF {l:List Fil} {n m:Txt} {u:Fil→Fil} (hu:∀ g,(u g).name=g.name):getF (updF l m u) n=if n=m then (getF l n).map u else getF l n:=by
 induction l with
 | nil=>simp [updF,getF]
 | cons g l ih =>
  rw [updF]
  by_cases h:m=g.name
  ·rw [if_pos h]
   by_cases hn:n=g.name
   ·have:n=m:=hn.trans h.symm
    rw [if_pos this]
    simp [getF,hu,hn]
   ·have:n ≠ m:=fun e=>hn (e.trans h)
    rw [if_neg this]
    simp [getF,hu,hn]
  ·rw [if_neg h]
   by_cases hn:n=g.name
   ·have:n ≠ m:=fun e=>h (e.symm.trans hn)
    rw [if_neg this]
    simp [getF,hn]
   ·simp only [getF,if_neg hn]
    exact ih
theorem cutL_keep {n:Txt} {f:Fil} (hf:f.syn=f.text.length) (k:Nat):∀ (ns:List Txt) (i:Nat) (l:List Fil),getF l n=some f→getF (cutL k i ns l) n=some f:=by
 intro ns
 induction ns with
 | nil=>intro i l h;exact h
 | cons m ns ih =>
  intro i l h
  rw [cutL]
  refine ih (i+1) _ ?_
  rw [getF_updF (u:=cutF k i) (fun _=>rfl)]
  split
  ·rw [h]
   have:cutF k i f=f:=by
    unfold cutF
    rw [hf,Nat.sub_self,Nat.min_zero,Nat.add_zero,List.take_length]
    cases f
    simp only at hf
    rw [hf]
   rw [Option.map_some,this]
  ·exact h
section
variable {x:AV} {l:List Txt} (hx:SS x l) (hl8:l.length≤8) (hsum:linesN l≤5000) (hfit:fitsR l=true) (kept:Nat)
include hx hl8 hsum hfit
theorem reads_J7 {o t : Nat} {A : List Nat} {H : Hp} {pk : Nat} {a : Txt} (hp : pk ≤ 262144) (ha : a.length ≤ 10000) (h : SysAt H o t (rT [rA, rB] [rB] 2) (rS pk [⟨rA, a, 0⟩, ⟨rB, encS l, (encS l).length⟩] true 0) A) (H0 : Hp) :
    ∃ H',L19_TempfileReads_J7 x (.int .u64 (kept:Int)) (.ptr t 0) (.ptr o 0) (.str rB) H0 H=some (.bool true,H'):=by
 have hcost:(encS l).length≤5048:=by rw [encS_len,costR_lines];omega
 have hok:=two_ok (pk:=pk) (a:=a) (b:=encS l) (i:=0) (j:=(encS l).length) (c:=0) true hp (by omega) (Nat.zero_le _) (Nat.le_refl _) (Nat.zero_le _)
 obtain ⟨B,S,h1,h2,h3,rfl⟩:=h
 obtain ⟨H1,S1,r1,r2,r3⟩:=Restart_run h2 hok kept
 have hsys:=SysAt.store (tm:=rT [rA,rB] [rB] 2) h1 h3 r2
 have hg:getF ((rS pk [⟨rA,a,0⟩,⟨rB,encS l,(encS l).length⟩] true 0).restart kept).files rB=some ⟨rB,encS l,(encS l).length⟩:=cutL_keep (f:=⟨rB,encS l,(encS l).length⟩) rfl kept _ 0 _ (by simp [getF,rBA])
 have hlt:=hsys.at'.lt
 obtain ⟨y,H2,k1,k2,k3⟩:=lines_run (N:=H1.length) (n:=rB) (ls:=l) (rT_ok [rA,rB] [rB] 2 (by decide) (by decide)) r3 (by simp [tmFind]) rfl rfl hg rfl hfit (by show (encS l).length≤262144;omega) (by omega) hlt hsys.at' (Nat.le_refl _)
 have hsn:=sameN_flat k2 hx (by omega) H2
 obtain ⟨H3,hw⟩:=awake19_run H2
 refine ⟨H3,?_⟩
 rw [L19_TempfileReads_J7_eq]
 simp only [r1,go_sem,hx.len 9,k1,List.getElem?_cons_zero,List.getElem?_cons_succ,hsn,hw]
theorem reads_J6 {o t : Nat} {A : List Nat} {H : Hp} {pk : Nat} {a : Txt} (hp : pk ≤ 262144) (ha : a.length ≤ 10000) (h : SysAt H o t (rT [rA, rB] [rB] 2) (rS pk [⟨rA, a, 0⟩, ⟨rB, encS l, (encS l).length⟩] false 0) A) (H0 : Hp) :
    ∃ H',L19_TempfileReads_J6 x (.int .u64 (kept:Int)) (.ptr t 0) (.ptr o 0) (.str rB) H0 H=some (.bool true,H'):=by
 have hcost:(encS l).length≤5048:=by rw [encS_len,costR_lines];omega
 obtain ⟨B,S,h1,h2,h3,rfl⟩:=h
 obtain ⟨H1,r1,r2⟩:=FailAfter_run h2 rfl 1 (by omega)
 have hsys:=SysAt.store (tm:=rT [rA,rB] [rB] 2) h1 h3 r2
 have hok:=two_ok (pk:=pk) (a:=a) (b:=encS l) (i:=0) (j:=(encS l).length) (c:=1) false hp (by omega) (Nat.zero_le _) (Nat.le_refl _) (by omega)
 obtain ⟨H2,q1,q2,_⟩:=TRead_crash (n:=rB) hsys.at' (rT_ok [rA,rB] [rB] 2 (by decide) (by decide)) hok (by simp [tmFind]) rfl 0 (by omega)
 obtain ⟨H3,hw⟩:=reads_J7 hx hl8 hsum hfit kept hp ha (o:=o) (t:=t) q2 H0
 have r1':C_store_Store_FailAfter [.ptr t 0,.int .i64 1] H=some (.tuple [],H1):=r1
 have e:((19:Int) != 19)=false:=rfl
 refine ⟨H3,?_⟩
 rw [L19_TempfileReads_J6_eq]
 simp only [r1',go_sem,q1,List.getElem?_cons_zero,List.getElem?_cons_succ,e]
 exact hw
theorem reads_J5 {o t : Nat} {A : List Nat} {H : Hp} {pk : Nat} {a : Txt} (hp : pk ≤ 262144) (ha : a.length ≤ 10000) (h : SysAt H o t (rT [rA, rB] [] 2) (rS pk [⟨rA, a, 0⟩, ⟨rB, encS l, 0⟩] false 0) A) (H0 : Hp) :
    ∃ H',L19_TempfileReads_J5 x (.int .u64 (kept:Int)) (.ptr t 0) (.ptr o 0) (.str rB) H0 H=some (.bool true,H'):=by
 have hcost:(encS l).length≤5048:=by rw [encS_len,costR_lines];omega
 have hok:=two_ok (pk:=pk) (a:=a) (b:=encS l) (i:=0) (j:=0) (c:=0) false hp (by omega) (Nat.zero_le _) (Nat.zero_le _) (Nat.zero_le _)
 have hok2:=two_ok (pk:=pk) (a:=a) (b:=encS l) (i:=0) (j:=(encS l).length) (c:=0) false hp (by omega) (Nat.zero_le _) (Nat.le_refl _) (Nat.zero_le _)
 have hlt:=h.lt
 have hg:getF (rS pk [⟨rA,a,0⟩,⟨rB,encS l,0⟩] false 0).files rB=some ⟨rB,encS l,0⟩:=by simp [getF,rBA]
 obtain ⟨y,H1,k1,k2,k3⟩:=lines_run (N:=H.length) (n:=rB) (ls:=l) (rT_ok [rA,rB] [] 2 (by decide) (by decide)) hok (by simp [tmFind]) rfl rfl hg rfl hfit (by show (encS l).length≤262144;omega) (by omega) hlt h (Nat.le_refl _)
 have hsn:=sameN_flat k2 hx (by omega) H1
 have hSe:tmSeal (rT [rA,rB] [] 2) (rS pk [⟨rA,a,0⟩,⟨rB,encS l,0⟩] false 0) rB=(0,(rT [rA,rB] [rB] 2,rS pk [⟨rA,a,0⟩,⟨rB,encS l,(encS l).length⟩] false 0)) :=
  run_seal (fs:=[⟨rA,a,0⟩]) rfl rfl rfl (by simp) rfl (by simp [getF,rBA])
 obtain ⟨H2,A2,s1,s2⟩:=Seal_run k3 (rT_ok [rA,rB] [] 2 (by decide) (by decide)) hok rB
 rw [hSe] at s1 s2
 have hW:tmWrite (rT [rA,rB] [rB] 2) (rS pk [⟨rA,a,0⟩,⟨rB,encS l,(encS l).length⟩] false 0) rB []=(8,rS pk [⟨rA,a,0⟩,⟨rB,encS l,(encS l).length⟩] false 0):=by
  unfold tmWrite
  rw [if_neg (by simp [tmFind]),if_pos (by simp)]
 obtain ⟨H3,A3,w1,w2⟩:=Write_run s2.at' (rT_ok [rA,rB] [rB] 2 (by decide) (by decide)) hok2 rB (x:=.nils) (l:=[]) (.inl ⟨rfl,rfl⟩) (by simp) (by simp [costR])
 rw [hW] at w1 w2
 obtain ⟨H4,hw⟩:=reads_J6 hx hl8 hsum hfit kept hp ha w2.at' H0
 have e0:((0:Int) != 0)=false:=rfl
 have e8:((8:Int) != 8)=false:=rfl
 dsimp only at s1 w1
 refine ⟨H4,?_⟩
 rw [L19_TempfileReads_J5_eq]
 simp only [hx.len 9,go_sem,k1,List.getElem?_cons_zero,List.getElem?_cons_succ,Bool.not_true,hsn,s1,e0,w1,e8]
 exact hw
theorem reads_J3 {k:Nat} (hk:k≤l.length) (H0 H:Hp):∃ H',L19_TempfileReads_J3 x (.int .u64 (kept:Int)) (.int .i64 (k:Int)) H0 H=some (.bool true,H'):=by
 have hcost:costR l≤5048:=by rw [costR_lines];omega
 have hct:costR (l.take k)+costR (l.drop k)=costR l:=by rw [← costR_app,List.take_append_drop]
 have hft:fitsR (l.take k)=true∧fitsR (l.drop k)=true:=by
  have:fitsR (l.take k++l.drop k)=true:=by rw [List.take_append_drop];exact hfit
  unfold fitsR at this ⊢
  rwa [List.all_append,Bool.and_eq_true] at this
 have hfl:∀ s ∈ l,s.length≤1048576:=fun s hs=>by
  have:=List.all_eq_true.1 hfit s hs
  simp only [decide_eq_true_eq] at this
  omega
 obtain ⟨H1,q1,q2,_⟩:=New_run 262144 (by omega) H
 have hs0:(⟨(min (max 262144 0) 262144:Int).toNat,0,[],false,0⟩:Sto)=rS 0 [] false 0:=rfl
 rw [hs0] at q2
 have o0:StoOk (rS 0 [] false 0):=⟨Nat.le_refl _,by simp [usedL],Nat.zero_le _,by simp,by simp,by simp,by simp,Nat.zero_le _⟩
 obtain ⟨H2,A2,r1,r2,_,_⟩:=TOpen_empty q2 o0 rfl [97] (by decide) (by decide) 20000
 have htm:(⟨[97],[],[],(max 0 20000:Int).toNat,0,false⟩:Tmp)=rT [] [] 0:=rfl
 rw [htm] at r2
 have hN1:tmNew (rT [] [] 0) (rS 0 [] false 0)=((rA,0),(rT [rA] [] 1,rS 0 [⟨rA,[],0⟩] false 0)):=run_new rfl rfl rfl rA_eq rA_ok rfl (by show 0 < 64;omega)
 have o1:StoOk (rS 0 [⟨rA,[],0⟩] false 0):=⟨Nat.le_refl _,by simp [usedL],Nat.zero_le _,by simp [rA_ok],by simp,by simp,by simp,Nat.zero_le _⟩
 have hN2:tmNew (rT [rA] [] 1) (rS 0 [⟨rA,[],0⟩] false 0)=((rB,0),(rT [rA,rB] [] 2,rS 0 [⟨rA,[],0⟩,⟨rB,[],0⟩] false 0)):=run_new rfl rfl rfl rB_eq rB_ok (by simp [getF,rBA]) (by show 1 < 64;omega)
 obtain ⟨H3,A3,n1,n2⟩:=TNew_run r2 (rT_ok [] [] 0 (by decide) (by decide)) o0 (by show 0 < 1000000;omega)
 rw [hN1] at n1 n2
 obtain ⟨H4,A4,m1,m2⟩:=TNew_run n2.at' (rT_ok [rA] [] 1 (by decide) (by decide)) o1 (by show 1 < 1000000;omega)
 rw [hN2] at m1 m2
 have hok2:TmpOk (rT [rA,rB] [] 2):=rT_ok [rA,rB] [] 2 (by decide) (by decide)
 obtain ⟨x1,p1,p2⟩:=hx.hi hk
 obtain ⟨x2,p3,p4⟩:=hx.lo hk
 -- the three writes
 have hW1:tmWrite (rT [rA,rB] [] 2) (rS 0 [⟨rA,[],0⟩,⟨rB,[],0⟩] false 0) rB (l.take k)=(0,rS (costR (l.take k)) [⟨rA,[],0⟩,⟨rB,encS (l.take k),0⟩] false 0):=by
  rw [run_write2 rfl rfl (by simp [tmFind]) (by simp) (f:=⟨rB,[],0⟩) (by simp [getF,rBA]) hft.1 (by simp [usedL];omega) (by simp [usedL];omega)]
  simp [updF,rBA,usedL]
 have hW2:tmWrite (rT [rA,rB] [] 2) (rS (costR (l.take k)) [⟨rA,[],0⟩,⟨rB,encS (l.take k),0⟩] false 0) rA l=(0,rS (max (costR (l.take k)) (costR (l.take k)+costR l)) [⟨rA,encS l,0⟩,⟨rB,encS (l.take k),0⟩] false 0):=by
  rw [run_write2 rfl rfl (by simp [tmFind]) (by simp) (f:=⟨rA,[],0⟩) (by simp [getF]) hfit (by simp [usedL,encS_len];omega) (by simp [usedL,encS_len];omega)]
  simp [updF,usedL,encS_len]
 have hW3:tmWrite (rT [rA,rB] [] 2) (rS (max (costR (l.take k)) (costR (l.take k)+costR l)) [⟨rA,encS l,0⟩,⟨rB,encS (l.take k),0⟩] false 0) rB (l.drop k)=(0,rS (max (max (costR (l.take k)) (costR (l.take k)+costR l)) (costR l+costR (l.take k)+costR (l.drop k))) [⟨rA,encS l,0⟩,⟨rB,encS l,0⟩] false 0):=by
  rw [run_write2 rfl rfl (by simp [tmFind]) (by simp) (f:=⟨rB,encS (l.take k),0⟩) (by simp [getF,rBA]) hft.2 (by simp [usedL,encS_len];omega) (by simp [usedL,encS_len];omega)]
  have:encS (l.take k)++encS (l.drop k)=encS l:=by rw [← encS_app,List.take_append_drop]
  simp [updF,rBA,usedL,encS_len,this]
 have s2:=two_ok (pk:=0) (a:=[]) (b:=[]) (i:=0) (j:=0) (c:=0) false (Nat.zero_le _) (by simp) (Nat.zero_le _) (Nat.zero_le _) (Nat.zero_le _)
 have s3:=two_ok (pk:=costR (l.take k)) (a:=[]) (b:=encS (l.take k)) (i:=0) (j:=0) (c:=0) false (by omega) (by rw [encS_len];simp;omega) (Nat.zero_le _) (Nat.zero_le _) (Nat.zero_le _)
 have s4:=two_ok (pk:=max (costR (l.take k)) (costR (l.take k)+costR l)) (a:=encS l) (b:=encS (l.take k)) (i:=0) (j:=0) (c:=0) false (by omega) (by rw [encS_len,encS_len];omega) (Nat.zero_le _) (Nat.zero_le _) (Nat.zero_le _)
 obtain ⟨H5,A5,w1,w2⟩:=Write_run m2.at' hok2 s2 rB p2 (fun s hs=>hfl s (List.mem_of_mem_take hs)) (by omega)
 rw [hW1] at w1 w2
 obtain ⟨H6,A6,v1,v2⟩:=Write_run w2.at' hok2 s3 rA hx hfl (by omega)
 rw [hW2] at v1 v2
 obtain ⟨H7,A7,u1,u2⟩:=Write_run v2.at' hok2 s4 rB p4 (fun s hs=>hfl s (List.mem_of_mem_drop hs)) (by omega)
 rw [hW3] at u1 u2
 obtain ⟨H8,hw⟩:=reads_J5 hx hl8 hsum hfit kept (a:=encS l) (by omega) (by rw [encS_len];omega) u2.at' H0
 have e0:((0:Int) != 0)=false:=rfl
 have eab:(rA == rB)=false:=by decide
 have hnil:ebin (.pointer 89) .eql (.ptr (H1.length+1) 0) .nilp=some (.bool false):=rfl
 dsimp only at n1 m1 w1 v1 u1
 refine ⟨H8,?_⟩
 rw [L19_TempfileReads_J3_eq]
 simp only [q1,go_sem,r1,List.getElem?_cons_zero,List.getElem?_cons_succ,e0,hnil,L19_TempfileReads_J4_eq,n1,m1,eab,p1,w1,v1,p3,u1]
 exact hw
end
theorem Reads_law {x:AV} {l:List Txt} (hx:SS x l) (hL:∀ s ∈ l,s.length≤1048576) (hl:l.length≤1048576) (part:Int) (kept:Nat):∃ H',C_L19_TempfileReads [x,.int .i64 part,.int .u64 (kept:Int)] []=some (.bool true,H'):=by
 have hc:ClV (.agg ((⟨0,[],l,0,0⟩:Cl).cells x)) ⟨0,[],l,0,0⟩:=⟨x,rfl,hx⟩
 obtain ⟨b,k1,k2⟩:=small_flat hc []
 have hfl:(afill [(2,1,x)] [(.int .i64 0),(.str []),.nils,(.int .i64 0),(.int .u64 0)]).map AV.agg=some (.agg ((⟨0,[],l,0,0⟩:Cl).cells x)):=by
  rcases hx with ⟨rfl,_⟩ | ⟨tk,rfl⟩ <;> rfl
 rw [F_L19_TempfileReads_eq]
 unfold F_L19_TempfileReads
 cases b with
 | false =>
  obtain ⟨H',hw⟩:=awake19_run []
  exact ⟨H',by simp only [hfl,k1,go_sem,Bool.not_false,hw]⟩
 | true =>
  have hsm:=k2 rfl
  have h8:l.length≤8:=hsm.cnt
  have hsum:linesN l≤5000:=hsm.sum
  have loop:∀ (r d:List Txt),l=d++r→fitsR d=true→∃ H',L19_TempfileReads_L1 x (.int .i64 part) (.int .u64 (kept:Int)) (.int .i64 (d.length:Int)) [] []=some (.bool true,H'):=by
   intro r
   induction r with
   | nil =>
    intro d hd hf
    rw [List.append_nil] at hd
    subst hd
    have hlt:decide ((l.length:Int) < (l.length:Int))=false:=by simp
    rw [L19_TempfileReads_L1_eq]
    by_cases hp:0 < part∧part < (l.length:Int)
    ·obtain ⟨H',hw⟩:=reads_J3 hx h8 hsum hf kept (k:=part.toNat) (by omega) [] []
     rw [show ((part.toNat:Nat):Int)=part by omega] at hw
     refine ⟨H',?_⟩
     simp only [go_sem,hx.len 9,hlt,L19_TempfileReads_J2_eq,decide_eq_true hp.1,decide_eq_true hp.2]
     exact hw
    ·obtain ⟨H',hw⟩:=reads_J3 hx h8 hsum hf kept (k:=0) (Nat.zero_le _) [] []
     refine ⟨H',?_⟩
     by_cases h1:0 < part
     ·have h2:decide (part < (l.length:Int))=false:=decide_eq_false (by omega)
      simp only [go_sem,hx.len 9,hlt,L19_TempfileReads_J2_eq,decide_eq_true h1,h2]
      exact hw
     ·simp only [go_sem,hx.len 9,hlt,L19_TempfileReads_J2_eq,decide_eq_false h1]
      exact hw
   | cons s r ih =>
    intro d hd hf
    have hlen:l.length=d.length+(r.length+1):=by rw [hd];simp
    have hlt:decide ((d.length:Int) < (l.length:Int))=true:=by simp;omega
    have hw1:IntKind.i64.wrap ((d.length:Int)+1)=((d.length+1:Nat):Int):=by rw [wrap64 (by omega) (by omega)];omega
    have hi:=SS.idx hx (i:=d.length) (s:=s) (by rw [hd,List.getElem?_append_right (Nat.le_refl _)];simp)
    have hal:alenD .string (.str s)=some (.int .i64 (s.length:Int)):=rfl
    rw [L19_TempfileReads_L1_eq]
    by_cases h4:s.length≤4096
    ·have e1:decide ((4096:Int) < (s.length:Int))=false:=by simp;omega
     obtain ⟨H',hw⟩:=ih (d++[s]) (by rw [hd];simp) (by
      unfold fitsR at hf ⊢
      rw [List.all_append,hf]
      simp [h4])
     rw [List.length_append,List.length_singleton] at hw
     refine ⟨H',?_⟩
     simp only [go_sem,hx.len 9,hlt,L19_TempfileReads_J8_eq,hi,aload_vpc,hal,e1,L19_TempfileReads_J9_eq,hw1]
     exact hw
    ·have e1:decide ((4096:Int) < (s.length:Int))=true:=by simp;omega
     obtain ⟨H',hw⟩:=awake19_run []
     exact ⟨H',by simp only [go_sem,hx.len 9,hlt,L19_TempfileReads_J8_eq,hi,aload_vpc,hal,e1,hw]⟩
  obtain ⟨H',hw⟩:=loop l [] rfl rfl
  refine ⟨H',?_⟩
  simp only [hfl,k1,go_sem,Bool.not_true,L19_TempfileReads_J1_eq]
  exact hw
end Go.Am
