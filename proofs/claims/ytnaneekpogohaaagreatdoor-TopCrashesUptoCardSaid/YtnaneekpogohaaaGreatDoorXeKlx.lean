/- The end of a sort in a store that may crash -/
import Derived.Test.YtnaneekpogohaaaGreatDoorXeOex
import Derived.Test.YtnaneekpogohaaaGreatDoorXeCox
import Derived.Test.YtnaneekpogohaaaGreatDoorXeLax
import Derived.Test.YtnaneekpogohaaaGreatDoorXeGx
import Derived.Test.YtnaneekpogohaaaGreatDoorXeQcx
open Go.Am.AV renaming int->J
open Go.IntKind renaming i64->yL
open Go.IntKind renaming i64->yK
open List renaming mem_singleton->zB,getElem?_cons_zero->zC,getElem?_cons_succ->zD,mem_cons->zE,set->zF,append_nil->zG,mem_append->zH,getElem?_append_right->zI,mem_map_of_mem->zJ,mem_append_right->zK,length_map->zM,map_append->zP,flatMap_append->zQ,flatMap_cons->zS,getElem?_append_left->zT,not_mem_nil->zU,nodup_cons->zV,length_singleton->zW,mapM_cons->zX,getElem?_set_ne->zY,length_append->zZ,length_take->yC,mem_filter->yD,nodup_nil->yF,map_cons->yH,mem_map->yI
open Nat renaming le_refl->zL,zero_add->zN,le_trans->yA
open Bool renaming not_true->zO,not_false->yE
open Option renaming ne_none_iff_exists'->zR
open Go.Am.AObj renaming cells->zA
open Go.Am.AV renaming int->yB,agg->yG,str->yJ
namespace Go.Am
set_option linter.unusedSectionVars false
set_option maxRecDepth 100000
structure Qt (B:List Fil)(lim:Nat)(s:Sto):Prop where
  lm:s.limit=min lim 262144
  pk:s.peak<=min lim 262144
  files:s.files=B
  crashed:s.crashed=false
  cn:Cn lim s.count
  room:Zr B<=min lim 262144
structure Lost (B:List Fil)(lim:Nat)(s:Sto):Prop where
  sto:StoOk s
  lm:s.limit=min lim 262144
  big:lim=262144
  dead:s.crashed=true
  files:∃ T,s.files=B++T/\∀ f∈T,∃ i,1<=i/\i<=128/\f.name=ZJ i
abbrev zst:AV:=.agg [J yL 0,J yL 0,J yL 0,J yL 0]
section
variable {o t:Nat}{B:List Fil}(hB:BOk B){lim:Nat}
include hB
theorem ZgK {tm:Tmp}{s:Sto}{er:Int}{A:List Nat}{H:Hp}{sc ec mc cc:Nat}(hb:Bad B lim tm s er)(hsys:SysAt H o t tm s A)(hF:FxB H sc ec mc cc o er false)(hd:∀ x∈[sc,ec],x∉A)(H0:Hp) :
    ∃ H' s' S1,XN .nils (.ptr sc 0) (.ptr ec 0) (.fn (.func 44) [] [.ptr ec 0,.ptr cc 0,.ptr mc 0]) H0 H=some (.tuple [.nils,zst,J yL er],H')/\StoreAt H' t s' S1/\Stp A H H'/\(∀ x∈S1,x∈A\/H.length<=x) /\
      (er=19/\Lost B lim s'\/er=12/\Qt B lim s'/\lim<262144):=by
  have hnB:∀ n∈tm.names,n∉B.map Fil.name:=fun n hn=>by
    obtain⟨i,_,_,e⟩:=hb.num n hn;rw[e];exact XS.notB hB i
  obtain⟨H1,A1,tm1,s1,e1,c1,c2,c3,c4,c5,c6,c7⟩:=Zhg hsys hb.ok hb.sto hb.nd hnB hb.files hb.cl;have hs1:=c2.stp.get hF.s (hd sc (by simp));have he1:=c2.stp.get hF.e (hd ec (by simp));have le:=ZN hF.e 0 (v:=J yL er) rfl;have lc:=ZN hF.c 0 (v:=.bool false) rfl;have lm:=ZN hF.m 0 (v:=.ptr o 0) rfl;have hne:=hb.ne
  have hcall:Yf cfg (Zb cfg) (.fn (.func 44) [] [.ptr ec 0,.ptr cc 0,.ptr mc 0]) [] H=some (.tuple [],H1):=by
    rw[Zgy,Gh];unfold JY;simp only[go_sem,le,hne,lc,yE,lm,c1]
  have l4:Z3 true 4 (.ptr sc 0) H1=some zst:=by rw[Yv hs1];rfl
  have l1:=ZN he1 0 (v:=J yL er) rfl;obtain⟨Bs,Ss,z1,z2,z3,z4⟩:=c2.at';refine⟨H1,s1,Ss,?_,z2,c2.stp,fun x hx=>c2.own x (by rw[z4];exact zK _ hx),?_⟩
  · rw[B4]
    simp only[hcall,go_sem,l4,l1]
  · obtain⟨T,f1,f2⟩:=c5
    have hlm:=c4.trans hb.lm;rcases hb.err with ⟨rfl,d1,d2⟩|⟨rfl,d1,d2,d3⟩
    · refine .inl ⟨rfl,c3,hlm,d2,?_,T,f1,fun f hf=>hb.num _ (f2 f hf)⟩
      rcases c7 with ⟨_,_,h⟩|⟨_,h,_⟩
      · rw[h];exact d1
      · exact h
    · rcases c7 with ⟨_,h1,h2⟩|⟨_,_,h⟩
      · have hu:=c3.used
        have hp:=c3.peak;have hl:=c3.limit;rw[h1]at hu;exact .inr ⟨rfl,⟨hlm,by omega,h1,by rw[h2];exact d1,⟨by omega,by omega,.inl (by omega)⟩,by omega⟩,d3⟩
      · rcases h with h|h
        · rw[d1]at h;cases h
        · omega
variable {g:Nat}{L:Loc}{lx cl e:AV}{p:Spec}{xp:AV}(hl:LocAV (.agg (L.cells lx cl e)) L)(hok:LocOk L)(hsm:LocSm L)(hs:SpecAV (.agg (p.cells xp)) p)(hks:∀ k∈p.keys,KeOk k)(hkl:p.keys.length<=1048576)
include hl hok hsm hs hks hkl
theorem Zuc {w:Nat}{zc sc ec mc cc:Nat}{mem:Int}{r0 y0:Int}{l:List Zl}(hnd:[zc,sc,ec,mc,cc].Nodup)(H0:Hp){a:PSt}{tm:Tmp}{s:Sto}{A S:List Nat}{H:Hp}(hI:SInv L p r0 y0 l a)
    (hX:XG B lim tm s a.P a.k) (hsys:SysAt H o t tm s A) (hS:SrAt H g o A L lx cl e p xp a.O a.st S) (hF:FxAt H zc sc ec mc cc o mem (w:Int) false) (hd:∀ x∈[zc,sc,ec,mc,cc],x∉S/\x∉A) :
    ∃ H' s' S1,StoreAt H' t s' S1/\Stp (sc::ec::cc::A) H H'/\(∀ x∈S1,x∈A\/H.length<=x) /\
      ((∃ y,Qz (.ptr sc 0) (.ptr ec 0) (.ptr mc 0) (.ptr cc 0) (.ptr g 0) (.fn (.func 44) [] [.ptr ec 0,.ptr cc 0,.ptr mc 0]) H0 H=some (.tuple [y,CB a.st,J yL 0],H')/\SS y (ZO L p l)/\Qt B lim s') \/
       Qz (.ptr sc 0) (.ptr ec 0) (.ptr mc 0) (.ptr cc 0) (.ptr g 0) (.fn (.func 44) [] [.ptr ec 0,.ptr cc 0,.ptr mc 0]) H0 H=some (.tuple [.nils,zst,J yL 19],H')/\Lost B lim s'):=by
  have hFl:=hF.lt;have hSo:=hS.off;have e0:((0:Int) != 0)=false:=rfl;have e19:((19:Int) != 0)=true:=rfl;have hn5:=hnd;simp only[zV,zE,zU,or_false,not_or,yF,not_false_eq_true,and_true]at hn5;obtain⟨⟨n1,n2,n3,n4⟩,⟨n5,n6,n7⟩,⟨n8,n9⟩,n10⟩:=hn5;obtain⟨H1,s1,hT,q3,q4,qq⟩:=ZqK hB hl hok hsm hs hks hkl (by have:=hI.len;omega) hI.lines (fun x hx=>hI.perm.mem_iff.2 hx) hX hsys hS;have hF1:=hF.stp q4 fun x hx h=>(hd x hx).2 h;have hS1:=hS.stp q4 hSo fun x h=>.inl h;have hl01:=q4.len;have b1:Stp (sc::ec::cc::A) H H1:=q4.mono fun x hx=>by simp[hx]
  rcases qq with ⟨cr1,y,q1,q2⟩|⟨cr1,q1⟩
  rotate_left
  · obtain⟨f1,f2,f3,f4,f5,f6,f7⟩:=Zmp hF1.s hF1.e (Ne.symm n5) 19
    have t2:Stp [ec] H1 (H1.set ec (.cells [J yL 19])):=Stp.set _ _ (by simp);have hm2:=t2.get hF1.m (by simpa using Ne.symm n8);have hc2:=t2.get hF1.c (by simpa using Ne.symm n9);have hsys2:=q3.stp t2 fun x hx h=>(hd ec (by simp)).2 (by rw[<-zB.1 h];exact hx);obtain⟨H2,s2,S2,r1,r2,r3,r4,r5⟩:=ZgK hB (hX.bad hB hT cr1) hsys2 ⟨f6,f7,hm2,hc2⟩ (fun x hx=>(hd x (by simp at hx ⊢;rcases hx with h|h <;> simp[h])).2) H0
    have t2l:=t2.len;refine⟨H2,s2,S2,r2,(b1.trans t2 (fun _ h=>h) fun x h=>.inl (by rw[zB.1 h];simp)).trans r3 (fun _ h=>h) fun x h=>.inl (by simp[h]),fun x hx=>(r4 x hx).imp id fun h=>by omega,.inr ⟨?_,?_⟩⟩
    · rw[B5]
      simp only[q1,go_sem,zC,zD,f1,f2,e19,f3,f4,f5];exact r1
    · rcases r5 with ⟨_,h⟩|⟨h,_⟩
      · exact h
      · cases h
  obtain⟨Ps,c1,c2⟩:=hI.parts;rw[c1,Zer,c2]at q2;have hX1:=hX.tk hT cr1
  -- closed is true
  have s15:=V9 hF1.c 0 (v:=.bool true) rfl rfl (by simp);have esc:(zF [AV.bool false] 0 (.bool true))=[.bool true]:=rfl;rw[esc]at s15;have t2:Stp [cc] H1 (H1.set cc (.cells [.bool true])):=Stp.set _ _ (by simp);have hc2:=Zq (zA [.bool true]) hF1.c
  have hF2:FxAt (H1.set cc (.cells [.bool true])) zc sc ec mc cc o mem (w:Int) true :=
    ⟨t2.get hF1.z (by simpa using n4),t2.get hF1.s (by simpa using n7),t2.get hF1.e (by simpa using n9),t2.get hF1.m (by simpa using n10),hc2⟩
  have hcS:=hd cc (by simp);have hsys2:=q3.stp t2 fun x hx h=>hcS.2 (by rw[<-zB.1 h];exact hx);have hS2:=hS1.stp (A':=A) t2 (fun x hx h=>hcS.1 (by rw[<-zB.1 h];exact hx)) fun x h=>.inl h;have t2l:=t2.len;generalize hH2:H1.set cc (.cells [.bool true])=H2 at s15 t2 hF2 hsys2 hS2 t2l
  -- Close
  have hnB:∀ n∈tm.names,n∉B.map Fil.name:=fun n hn=>by
    obtain⟨i,_,_,e⟩:=hX1.names n hn;rw[e];exact XS.notB hB i
  obtain⟨H3,A3,tm3,s3,er,k1,k2,k3,k4,k5,k6,k7⟩:=Zhg (B:=B) hsys2 hX1.x.tmOk (hX1.sto hB) (by rw[hX1.x.tmE.2.1];exact hX1.x.nd) hnB ⟨YG a.P,hX1.files,fun f hf=>by rw[hX1.x.tmE.2.1,<-Kb];exact zJ hf⟩ hX1.x.tmE.2.2.2.2;have hF3:=hF2.stp k2.stp fun x hx h=>(hd x hx).2 h;have hS3:=hS2.stp k2.stp hS2.off k2.own;have hl23:=k2.stp.len;have le2:=ZN hF1.e 0 (v:=J yL 0) rfl;have lm:=ZN hF2.m 0 (v:=.ptr o 0) rfl;have b2:Stp (sc::ec::cc::A) H H2:=b1.trans t2 (fun _ h=>h) fun x h=>.inl (by rw[zB.1 h];simp);have b3:Stp (sc::ec::cc::A) H H3:=b2.trans k2.stp (fun _ h=>h) fun x h=>.inl (by simp[h]);have hA3o:∀ x∈A3,x∈A\/H.length<=x:=fun x hx=>(k2.own x hx).imp id fun h=>by omega
  have hd3:∀ x∈[zc,sc,ec,mc,cc],x∉A3:=fun x hx h=>by
    have:=hFl x hx;rcases hA3o x h with h|h
    · exact (hd x hx).2 h
    · omega
  rcases k7 with ⟨rfl,k7,k8⟩|⟨rfl,k7,k8⟩
  rotate_left
  · obtain⟨f1,f2,f3,f4,f5,f6,f7⟩:=Zmp hF3.s hF3.e (Ne.symm n5) 19
    have t4:Stp [ec] H3 (H3.set ec (.cells [J yL 19])):=Stp.set _ _ (by simp);have hc4:=t4.get hF3.c (by simpa using Ne.symm n9);have hsys4:=k2.at'.stp t4 fun x hx h=>hd3 ec (by simp) (by rw[<-zB.1 h];exact hx);generalize H3.set ec (.cells [J yL 19])=H4 at f1 f2 f4 f5 f6 f7 t4 hc4 hsys4;have lc:=ZN hc4 0 (v:=.bool true) rfl
    have hcall:Yf cfg (Zb cfg) (.fn (.func 44) [] [.ptr ec 0,.ptr cc 0,.ptr mc 0]) [] H4=some (.tuple [],H4):=by
      rw[Zgy,Gh];unfold JY;simp only[go_sem,f2,e19,lc,zO]
    have l4:Z3 true 4 (.ptr sc 0) H4=some zst:=by rw[Yv f6];rfl
    obtain⟨Bs,Ss,z1,z2,z3,z4⟩:=hsys4;refine⟨H4,s3,Ss,z2,b3.trans t4 (fun _ h=>h) fun x h=>.inl (by rw[zB.1 h];simp),fun x hx=>hA3o x (by rw[z4];exact zK _ hx),.inr ⟨?_,k3,k4.trans hX1.lm,?_,k7,?_⟩⟩
    · rw[B5]
      simp only[q1,go_sem,zC,zD,hF1.e0,le2,e0,M9,s15,lm,k1,f1,f2,e19,f3,f4,f5,B4,hcall,l4]
    · rcases k8 with h|h
      · rw[cr1]at h;cases h
      · rcases hX1.cn.2.2 with h2|h2
        · omega
        · exact h2
    · obtain⟨T,g1,g2⟩:=k5
      exact⟨T,g1,fun f hf=>hX1.names _ (g2 f hf)⟩
  obtain⟨x,g1,g2,g3,g4,g5⟩:=hS3;have l13:Z3 true 4 (.ptr g 13) H3=some (CB a.st):=by rw[Yv g1];rfl
  have s11:=WT (off:=0) (sz:=4) (v:=CB a.st) hF3.s rfl rfl (by simp);have esp:splice [yB .i64 0,J yL 0,J yL 0,J yL 0] 0 (CB a.st).cells=[J yL a.st.r,J yL a.st.m,J yL a.st.y,J yL a.st.k]:=rfl;rw[esp]at s11;have t4:Stp [sc] H3 (H3.set sc (.cells [J yL a.st.r,J yL a.st.m,J yL a.st.y,J yL a.st.k])):=Stp.set _ _ (by simp);have hsc4:=Zq (zA [J yL a.st.r,J yL a.st.m,J yL a.st.y,J yL a.st.k]) hF3.s;have hec4:=t4.get hF3.e (by simpa using Ne.symm n5);have hsys4:=k2.at'.stp t4 fun x hx h=>hd3 sc (by simp) (by rw[<-zB.1 h];exact hx);generalize hH4:H3.set sc (.cells [J yL a.st.r,J yL a.st.m,J yL a.st.y,J yL a.st.k])=H4 at s11 t4 hsc4 hec4 hsys4
  have se4:Za 1 (.ptr ec 0) (J yL 0) H4=some (.tuple [],H4):=by
    have:=V9 hec4 0 (v:=J yL 0) rfl rfl (by simp);rw[this];congr 2;exact Ch hec4
  have le4:=ZN hec4 0 (v:=J yL 0) rfl;have lst:Z3 true 4 (.ptr sc 0) H4=some (CB a.st):=by rw[Yv hsc4];rfl
  have hcall:Yf cfg (Zb cfg) (.fn (.func 44) [] [.ptr ec 0,.ptr cc 0,.ptr mc 0]) [] H4=some (.tuple [],H4):=by
    rw[Zgy,Gh];unfold JY;simp only[go_sem,le4,e0]
  have le3:=ZN hF3.e 0 (v:=J yL 0) rfl;have hu:=k3.used;have hp:=k3.peak;have hlm:=k4.trans hX1.lm;rw[k7]at hu;obtain⟨Bs,Ss,z1,z2,z3,z4⟩:=hsys4;refine⟨H4,s3,Ss,z2,b3.trans t4 (fun _ h=>h) fun x h=>.inl (by rw[zB.1 h];simp),fun x hx=>hA3o x (by rw[z4];exact zK _ hx),.inl ⟨y,?_,q2,hlm,by omega,k7,k8.trans cr1,hX1.cn.less k6,by omega⟩⟩;rw[B5];simp only[q1,go_sem,zC,zD,hF1.e0,le2,e0,M9,s15,lm,k1,hF3.e0,le3,ZdT,zN,l13,s11,se4,B4,hcall,lst,le4]
end
structure Lft (B:List Fil)(lim:Nat)(s:Sto):Prop where
 sto:StoOk s
 lm:s.limit=min lim 262144
 crashed:s.crashed=false
 cn:Cn lim s.count
 files:∃ T,s.files=B++T/\∀ f∈T,∃ i,1<=i/\i<=128/\f.name=ZJ i
theorem Qt.sto {B:List Fil}{lim:Nat}{s:Sto}(hB:BOk B)(h:Qt B lim s):StoOk s:=by
 refine (ZjT hB (fs:=[]) (s:=⟨262144,0,B,false,0⟩) (by simp) (fun f j=>by cases j) (fun f j=>by cases j) (by simp) (by have:=hB.used;simp[Zr];omega) rfl (by show 0<=262144;omega) (by simp) rfl).alt h.files (by rw[h.lm];omega) ?_ (by rw[h.lm];exact h.pk) h.cn.2.1;rw[h.lm];exact h.room
theorem Qt.lft {B:List Fil}{lim:Nat}{s:Sto}(hB:BOk B)(h:Qt B lim s):Lft B lim s :=
 ⟨h.sto hB,h.lm,h.crashed,h.cn,[],by rw[zG];exact h.files,fun f j=>by cases j⟩
theorem ZwG:((List.range 128).all fun i=>JI Wu (ZJ (i+1)))=true:=by kernel_rfl
theorem ZzO {i:Nat}(h:1<=i)(j:i<=128):JI Wu (ZJ i)=true:=by
 have:=WS ZwG (i:=i-1) (by omega)
 rwa [show i-1+1=i by omega]at this
theorem Zg9:QR Wu=true:=by kernel_rfl
theorem Zoz (l:List Fil):(Uj l).map Fil.name=VT (l.map Fil.name):=by
 have:∀ L:List Zm,(∀ n∈L,n∈l.map Fil.name)->(L.filterMap (ZP l)).map Fil.name=L:=by
  intro L
  induction L with
  |nil=>intro _;rfl
  |cons n L y =>
   intro h;obtain⟨f,u⟩:=C0 (h n (by simp));obtain⟨_,_,_,j,_⟩:=TD u;rw[List.filterMap_cons,u];show f.name::_=_;rw[j,y fun m hm=>h m (by simp[hm])]
 exact this _ fun n j=>(Mp _ _).1 j
theorem Lft.left {B:List Fil}{lim:Nat}{s:Sto}(h:Lft B lim s)(u:∀ f∈B,JI Wu f.name=false):(Wo Wu s).Nodup/\(∀ n∈Wo Wu s,n∉B.map Fil.name/\ZP s.files n≠none)/\Za7 B s (Wo Wu s):=by
 have e:Wo Wu s=(VT (s.files.map Fil.name)).filter (JI Wu):=by
  unfold Wo QC;rw[if_pos Zg9,Zoz]
 obtain⟨T,A,E⟩:=h.files;rw[e];refine⟨((QN _).nodup_iff.2 h.sto.nd).filter _,fun n M=>?_,T,A,fun f j=>?_⟩
 ·obtain⟨F,C⟩:=yD.1 M;have I:=(Mp _ _).1 F;obtain⟨f,j⟩:=C0 I;refine⟨fun K=>?_,by rw[j];simp⟩;obtain⟨b,y,z⟩:=yI.1 K;rw[<-z,u b y]at C;cases C
 ·obtain⟨i,N,O,D⟩:=E f j;refine yD.2 ⟨(Mp _ _).2 ?_,by rw[D];exact ZzO N O⟩;rw[A,zP];exact zK _ (zJ j)
theorem Zn7 {s:Sto}{n:Zm}(j:ZP s.files n≠none):(s.remove n).1≠5:=by
 unfold Sto.remove;split
 ·simp
 ·split
  ·rename_i h;exact absurd h j
  ·simp
theorem Zg8 {B:List Fil}:∀ (l:List Zm) (s:Sto),StoOk s->s.crashed=false->l.Nodup->(∀ n∈l,n∉B.map Fil.name/\ZP s.files n≠none)->Za7 B s l ->
 StoOk (Y6 l s).2/\(Y6 l s).2.limit=s.limit/\(Y6 l s).2.count<=s.count /\
  ((Y6 l s).1=0/\(Y6 l s).2.crashed=false/\(Y6 l s).2.files=B\/(Y6 l s).1=19/\(Y6 l s).2.crashed=true/\0<s.count/\Za7 B (Y6 l s).2 l):=by
 intro l
 induction l with
 |nil =>
  intro s hk F _ _ j;refine⟨hk,rfl,zL _,.inl ⟨rfl,F,?_⟩⟩;obtain⟨T,e,E⟩:=j
  cases T with
  |nil=>show s.files=B;rw[e,zG]
  |cons f T=>have:=E f (by simp);cases this
 |cons n l ih =>
  intro s hk F u M j;obtain⟨N,O⟩:=M n (by simp);rw[zV]at u;have h5:=Zn7 O;have A:=ZiM hk n;obtain⟨U,V,h3⟩:=Zgb s n;rcases h3 with ⟨C,R,a3,a4⟩|⟨C,R,a3,a4⟩
  ·have y:Y6 (n::l) s=s.remove n:=by rw[Y6,if_pos (by rw[C];decide)]
   rw[y];refine⟨A,U,V,.inr ⟨C,R,?_,j.choose,by rw[a4];exact j.choose_spec.1,j.choose_spec.2⟩⟩;rcases a3 with h|h
   ·rw[F]at h;cases h
   ·exact h
  ·have h0:(s.remove n).1=0:=C.resolve_right h5;have y:Y6 (n::l) s=Y6 l (s.remove n).2:=by rw[Y6,if_neg (by simp[h0])]
   rw[y]
   have Q:Za7 B (s.remove n).2 l:=by
    obtain⟨T,e,E⟩:=j;refine⟨VR T n,by rw[a4,e,Zb9 N],fun f I=>?_⟩
    have z:(T.map Fil.name).Nodup:=by
     have:=hk.nd;rw[e,zP]at this;exact (List.nodup_append.1 this).2.1
    obtain⟨q1,q2⟩:=ZtV z I;rcases zE.1 (E f q1) with h|h
    ·exact absurd h q2
    ·exact h
   obtain⟨Y,Z,g3,g4⟩:=ih (s.remove n).2 A a3 u.2 (fun m hm=>⟨(M m (by simp[hm])).1,by
    have K:m≠n:=fun e=>by rw[e]at hm;exact u.1 hm
    rw[a4,Zz1 K];exact (M m (by simp[hm])).2⟩) Q
   refine⟨Y,Z.trans U,yA g3 V,g4.imp id fun⟨W,X,b3,D⟩=>⟨W,X,by omega,D.choose,D.choose_spec.1,fun f j=>List.mem_cons_of_mem _ (D.choose_spec.2 f j)⟩⟩
theorem ZrI {B:List Fil}(hB:BOk B)(K:∀ f∈B,JI Wu f.name=false){lim:Nat}{s:Sto}(u:Lft B lim s){H:Hp}{t:Nat}{S:List Nat}(h:StoreAt H t s S) :
 ∃ H' s',(∃ o A',Wy [.ptr t 0,.str Wu,J yL 262144] H=some (.tuple [.ptr o 0,J yL 0],H')/\SysAt H' o t ⟨Wu,[],[],262144,0,false⟩ s' A'/\Stp S H H'/\(∀ a∈A',a∈S\/H.length<=a)/\Qt B lim s') \/
  ∃ D,Wy [.ptr t 0,.str Wu,J yL 262144] H=some (.tuple [.nilp,J yL 19],H')/\StoreAt H' t s' D/\Stp S H H'/\(∀ a∈D,a∈S\/H.length<=a)/\Lost B lim s':=by
 have Z:ROk s:=⟨u.sto,fun h=>by rw[u.crashed]at h;cases h⟩;obtain⟨l1,M,l3⟩:=u.left K;obtain⟨I,X,Y,N⟩:=Zg8 (Wo Wu s) s u.sto u.crashed l1 M l3;obtain⟨p,e,H',Q,k2⟩:=ZrJ h Z Wu (by show 4<=_;omega) 262144;have C:=X.trans u.lm;have hu:=I.used;have hp:=I.peak;rcases k2 with ⟨k,_⟩|⟨_,k,rfl,rfl,D,m⟩|⟨_,k,rfl,o,A',rfl,_,m1,m2,m3⟩
 ·rw[Zg9]at k;cases k
 ·rcases N with ⟨z,_⟩|⟨z,E,F,R⟩
  ·exact absurd z k
  ·refine⟨H',_,.inr ⟨D,by rw[Q,z],m.at',m.stp,m.own,I,C,?_,E,?_⟩⟩
   ·rcases u.cn.2.2 with h|h
    ·omega
    ·exact h
   ·obtain⟨T,V,W⟩:=R;refine⟨T,V,fun f hf=>?_⟩;obtain⟨T0,t1,t2⟩:=u.files;have O:=W f hf;have hm:=(M _ O).2;obtain⟨U,A⟩:=zR.1 hm;obtain⟨_,_,_,j,_⟩:=TD A;have y:=C1 A;rw[t1]at y;rcases zH.1 y with h|h
    ·exact absurd (by rw[<-j];exact zJ h) (M _ O).1
    ·rw[<-j];exact t2 U h
 ·rcases N with ⟨z,E,F⟩|⟨z,_⟩
  ·rw[F]at hu;exact⟨H',_,.inl ⟨o,A',Q,m1,m2,m3,C,by omega,F,E,u.cn.less Y,by omega⟩⟩
  ·rw[z]at k;cases k
theorem XG.start {B:List Fil}{lim:Nat}{s:Sto}(h:Qt B lim s):XG B lim ⟨Wu,[],[],262144,0,false⟩ s [] 0:=by
  refine⟨?_,h.lm,h.pk,h.cn,by simpa[ZG]using h.room⟩;have y:=XS.start (B:=B) (pk:=s.peak) (by have:=h.pk;omega)
  have:({ s with limit:=262144,count:=0 }:Sto)=⟨262144,s.peak,B,false,0⟩:=by
    have j:=h.files;have u:=h.crashed;cases s;dsimp only at j u ⊢;subst j u;rfl
  rw[this];exact y
theorem Zur {a q x:AV}{L:Loc}{p:Spec}{l:List Zl}(ha:LocAV a L)(hok:LocOk L)(hsm:LocSm L)(hq:SpecAV q p)(hks:∀ k∈p.keys,KeOk k)(hkl:p.keys.length<=1048576)(hx:SS x l)(hl40:l.length<=40)(hl200:∀ s∈l,s.length<=200)
    {B:List Fil} (hB:BOk B) (hBt:∀ f∈B,JI Wu f.name=false) {lim:Nat} {w:Nat} {mem:Int} (hck:MH p mem (w:Int) l=0) {t:Nat} {s:Sto} (hL:Lft B lim s) {S0:List Nat} {H:Hp} (h:StoreAt H t s S0) :
    ∃ H' s' S1,StoreAt H' t s' S1/\Stp S0 H H'/\(∀ z∈S1,z∈S0\/H.length<=z) /\
      ((∃ y,Xc [.ptr t 0,a,q,.agg [J yL mem,J yL (w:Int)],x] H=some (.tuple [y,CB (ZyI L p mem w l),J yL 0],H')/\SS y (ZO L p l)/\Qt B lim s') \/
       Xc [.ptr t 0,a,q,.agg [J yL mem,J yL (w:Int)],x] H=some (.tuple [.nils,zst,J yL 19],H')/\Lost B lim s' \/
       Xc [.ptr t 0,a,q,.agg [J yL mem,J yL (w:Int)],x] H=some (.tuple [.nils,zst,J yL 12],H')/\Qt B lim s'/\lim<262144):=by
  have hLens:We l:=fun s hs=>by have:=hl200 s hs;omega
  obtain⟨hc0,hm1,hm2,hw1,hw2⟩:=Zp4 hck;have hqv:=hq;have hav:=ha;obtain⟨lx,cl,e,rfl,hlx,hlc,hle⟩:=ha;obtain⟨xp,rfl,hxp⟩:=hq
  -- the first cells
  have hlen1:(H++[zA (L.cells lx cl e),.cells (p.cells xp),.cells [J yL mem,J yL (w:Int)],.cells [J yL 0,J yL 0,J yL 0,J yL 0],.cells [J yL 0]]).length=H.length+5:=by simp
  have b1:ZQ (.agg (p.cells xp)) (H++[zA (L.cells lx cl e)])=some (.ptr (H.length+1) 0,H++[zA (L.cells lx cl e),.cells (p.cells xp)]):=by rw[Yu];simp
  have b2:ZQ (.agg [J yL mem,J yL (w:Int)]) (H++[zA (L.cells lx cl e),.cells (p.cells xp)])=some (.ptr (H.length+2) 0,H++[zA (L.cells lx cl e),.cells (p.cells xp),.cells [J yL mem,J yL (w:Int)]]):=by rw[Yu];simp
  have f0:(H++[zA (L.cells lx cl e),.cells (p.cells xp),.cells [J yL mem,J yL (w:Int)],.cells [J yL 0,J yL 0,J yL 0,J yL 0],.cells [J yL 0]])[H.length]?=some (.cells (L.cells lx cl e)):=by simp
  have f1:(H++[zA (L.cells lx cl e),.cells (p.cells xp),.cells [J yL mem,J yL (w:Int)],.cells [J yL 0,J yL 0,J yL 0,J yL 0],.cells [J yL 0]])[H.length+1]?=some (.cells (p.cells xp)):=by simp
  have f2:(H++[zA (L.cells lx cl e),.cells (p.cells xp),.cells [J yL mem,J yL (w:Int)],.cells [J yL 0,J yL 0,J yL 0,J yL 0],.cells [J yL 0]])[H.length+2]?=some (.cells [J yL mem,J yL (w:Int)]):=by simp
  have f3:(H++[zA (L.cells lx cl e),.cells (p.cells xp),.cells [J yL mem,J yL (w:Int)],.cells [J yL 0,J yL 0,J yL 0,J yL 0],.cells [J yL 0]])[H.length+3]?=some (.cells [J yL 0,J yL 0,J yL 0,J yL 0]):=by simp
  have f4:(H++[zA (L.cells lx cl e),.cells (p.cells xp),.cells [J yL mem,J yL (w:Int)],.cells [J yL 0,J yL 0,J yL 0,J yL 0],.cells [J yL 0]])[H.length+4]?=some (.cells [J yL 0]):=by simp
  have t1:Stp [] H (H++[zA (L.cells lx cl e),.cells (p.cells xp),.cells [J yL mem,J yL (w:Int)],.cells [J yL 0,J yL 0,J yL 0,J yL 0],.cells [J yL 0]]):=Stp.push _ _
  have push1:(H++[zA (L.cells lx cl e),.cells (p.cells xp),.cells [J yL mem,J yL (w:Int)]]++[zA [J yL 0,J yL 0,J yL 0,J yL 0]]++[zA [J yL 0]]) =
      (H++[zA (L.cells lx cl e),.cells (p.cells xp),.cells [J yL mem,J yL (w:Int)],.cells [J yL 0,J yL 0,J yL 0,J yL 0],.cells [J yL 0]]):=by simp
  have len3:(H++[zA (L.cells lx cl e),.cells (p.cells xp),.cells [J yL mem,J yL (w:Int)]]).length=H.length+3:=by simp
  have len4:(H++[zA (L.cells lx cl e),.cells (p.cells xp),.cells [J yL mem,J yL (w:Int)]]++[zA [J yL 0,J yL 0,J yL 0,J yL 0]]).length=H.length+4:=by simp
  generalize hH1:(H++[zA (L.cells lx cl e),.cells (p.cells xp),.cells [J yL mem,J yL (w:Int)],.cells [J yL 0,J yL 0,J yL 0,J yL 0],.cells [J yL 0]])=H1 at hlen1 f0 f1 f2 f3 f4 t1 push1;have ls:=QE f1;have lz:Z3 true 2 (.ptr (H.length+2) 0) H1=some (.agg [J yL mem,J yL (w:Int)]):=by rw[Yv f2];rfl
  obtain⟨H2,q1,q2⟩:=Zsa hx hLens (by omega) hqv mem (w:Int) t H1;rw[hck]at q1;have nn:∀ i,i∉([]:List Nat):=fun i h=>by cases h
  have hSl:=h.lt;have h2:=(h.stp t1 fun a _=>nn a).stp q2 fun a _=>nn a;have l12:=q2.len;have e0:((0:Int) != 0)=false:=rfl;have e19:((19:Int) != 0)=true:=rfl;have hoff:∀ i,H.length<=i->i<H2.length->i∉S0:=fun i h1 _ hS=>by have:=hSl i hS;omega
  have hstart:Xc [.ptr t 0,.agg (L.cells lx cl e),.agg (p.cells xp),.agg [J yL mem,J yL (w:Int)],x] H=Tz (.ptr t 0) x (.ptr H.length 0) (.ptr (H.length+1) 0) (.ptr (H.length+2) 0) (.ptr (H.length+3) 0) (.ptr (H.length+4) 0) H H2:=by
    rw[Zf1];unfold IK;simp only[Yu,go_sem,b1,b2,len3,push1,len4,ls,lz,q1,e0]
  have hS02:Stp S0 H H2:=(t1.mono fun a h=>absurd h (nn a)).trans (q2.mono (B:=S0) fun a h=>absurd h (nn a)) (fun _ h=>h) fun a h=>.inl h;obtain⟨H3,s3,hop⟩:=ZrI hB hBt hL h2;rcases hop with ⟨o,A3,o1,o2,o3,o4,hQ⟩|⟨S3,o1,o2,o3,o4,hLo⟩
  rotate_left
  · have hl12:=hS02.len
    have g3:=o3.get (q2.get f3 (nn _)) (hoff _ (by omega) (by omega));have g4:=o3.get (q2.get f4 (nn _)) (hoff _ (by omega) (by omega));have hl23:=o3.len;have sm:=V9 (H:=H3++[zA [.nilp]]) (o:=H3.length) (l:=[.nilp]) (by simp) 0 (v:=.nilp) rfl rfl (by simp);have em:(H3++[zA [.nilp]]).set H3.length (.cells (zF [.nilp] 0 .nilp))=H3++[zA [.nilp]]:=by simp
    rw[em]at sm;obtain⟨f1',f2',f3',f4',f5',f6',f7'⟩:=Zmp (ZY g3 [zA [.nilp]]) (ZY g4 [zA [.nilp]]) (show H.length+4≠H.length+3 by omega) 19;have t4:Stp [] H3 (H3++[zA [.nilp]]):=Stp.push _ _;have t5:Stp [H.length+4] (H3++[zA [.nilp]]) ((H3++[zA [.nilp]]).set (H.length+4) (.cells [J yL 19])):=Stp.set _ _ (by simp)
    have hs5:=(o2.stp t4 fun a _=>nn a).stp t5 fun a ha hh=>by
      rw[zB.1 hh]at ha;rcases o4 _ ha with k|k
      · have:=hSl _ k;omega
      · omega
    generalize (H3++[zA [.nilp]]).set (H.length+4) (.cells [J yL 19])=H5 at f1' f2' f4' f5' f6' f7' t5 hs5;have l4:Z3 true 4 (.ptr (H.length+3) 0) H5=some zst:=by rw[Yv f6'];rfl
    refine⟨H5,s3,S3,hs5,((hS02.trans o3 (fun _ h=>h) fun a h=>.inl h).trans (t4.mono (B:=S0) fun a h=>absurd h (nn a)) (fun _ h=>h) fun a h=>.inl h).trans t5 (fun _ h=>h) fun a h=>.inr (by rw[zB.1 h];omega),fun z hz=>(o4 z hz).imp id fun h=>by omega,.inr (.inl ⟨?_,hLo⟩)⟩;have o1':Wy [.ptr t 0,.str [115,111,114,116],J yL 262144] H2=some (.tuple [.nilp,J yL 19],H3):=o1;rw[hstart,B3];simp only[o1',go_sem,zC,zD,sm,f1',f2',e19,f3',f4',f5',l4]
  have l23:=o3.len;have hA3:=o2.lt
  have hoffA:∀ i,H.length<=i->i<H2.length->i∉A3:=fun i h1 h2 hA=>by
    rcases o4 i hA with k|k
    · exact hoff i h1 h2 k
    · omega
  have g0:=o3.get (q2.get f0 (nn _)) (hoff _ (by omega) (by omega));have g1:=o3.get (q2.get f1 (nn _)) (hoff _ (by omega) (by omega));have g2:=o3.get (q2.get f2 (nn _)) (hoff _ (by omega) (by omega));have g3:=o3.get (q2.get f3 (nn _)) (hoff _ (by omega) (by omega));have g4:=o3.get (q2.get f4 (nn _)) (hoff _ (by omega) (by omega))
  -- m,closed and the sorter
  have sm:=V9 (H:=H3++[zA [.nilp]]) (o:=H3.length) (l:=[.nilp]) (by simp) 0 (v:=.ptr o 0) rfl rfl (by simp);have em:(H3++[zA [.nilp]]).set H3.length (.cells (zF [.nilp] 0 (.ptr o 0)))=H3++[zA [.ptr o 0]]:=by simp
  rw[em]at sm;have ge4:(H3++[zA [.ptr o 0]])[H.length+4]?=some (.cells [J yL 0]):=ZY g4 _
  have se:Za 1 (.ptr (H.length+4) 0) (J yL 0) (H3++[zA [.ptr o 0]])=some (.tuple [],H3++[zA [.ptr o 0]]):=by
    have:=V9 ge4 0 (v:=J yL 0) rfl rfl (by simp);rw[this];congr 2;exact Ch ge4
  have le4:=ZN ge4 0 (v:=J yL 0) rfl;have lenm:(H3++[zA [.ptr o 0]]).length=H3.length+1:=by simp
  have sc:=V9 (H:=H3++[zA [.ptr o 0]]++[zA [.bool false]]) (o:=H3.length+1) (l:=[.bool false]) (by simp) 0 (v:=.bool false) rfl rfl (by simp);have ec:(H3++[zA [.ptr o 0]]++[zA [.bool false]]).set (H3.length+1) (.cells (zF [.bool false] 0 (.bool false)))=H3++[zA [.ptr o 0],.cells [.bool false]]:=by simp
  rw[ec]at sc;have t5:Stp [] H3 (H3++[zA [.ptr o 0],.cells [.bool false],.cells (W4 o L lx cl e p xp .nils ⟨0,0,0,0⟩)]):=Stp.push _ _;have lm5:Z3 false 1 (.ptr H3.length 0) (H3++[zA [.ptr o 0],.cells [.bool false]])=some (.ptr o 0):=ZN (l:=[.ptr o 0]) (by simp) 0 rfl;have ll5:Z3 true 6 (.ptr H.length 0) (H3++[zA [.ptr o 0],.cells [.bool false]])=some (.agg (L.cells lx cl e)):=Mk (ZY g0 _);have lp5:Z3 true 5 (.ptr (H.length+1) 0) (H3++[zA [.ptr o 0],.cells [.bool false]])=some (.agg (p.cells xp)):=QE (ZY g1 _);have hfill:(YS [(0,1,.ptr o 0),(1,6,.agg (L.cells lx cl e)),(7,5,.agg (p.cells xp))] [.nilp,(.str []),.nils,(.str []),(.str []),.nils,.nils,.nils,(J yL 0),(J yL 0),(.bool false),(.bool false),.nils,(J yL 0),(J yL 0),(J yL 0),(J yL 0)]).map yG=some (yG (W4 o L lx cl e p xp .nils ⟨0,0,0,0⟩)):=rfl;have bx:ZQ (.agg (W4 o L lx cl e p xp .nils ⟨0,0,0,0⟩)) (H3++[zA [.ptr o 0],.cells [.bool false]])=some (.ptr (H3.length+2) 0,H3++[zA [.ptr o 0],.cells [.bool false],.cells (W4 o L lx cl e p xp .nils ⟨0,0,0,0⟩)]):=by rw[Yu];simp
  have hm5:(H3++[zA [.ptr o 0],.cells [.bool false],.cells (W4 o L lx cl e p xp .nils ⟨0,0,0,0⟩)])[H3.length]?=some (.cells [.ptr o 0]):=by simp
  have hc5:(H3++[zA [.ptr o 0],.cells [.bool false],.cells (W4 o L lx cl e p xp .nils ⟨0,0,0,0⟩)])[H3.length+1]?=some (.cells [.bool false]):=by simp
  have hg5:(H3++[zA [.ptr o 0],.cells [.bool false],.cells (W4 o L lx cl e p xp .nils ⟨0,0,0,0⟩)])[H3.length+2]?=some (.cells (W4 o L lx cl e p xp .nils ⟨0,0,0,0⟩)):=by simp
  have l5:(H3++[zA [.ptr o 0],.cells [.bool false],.cells (W4 o L lx cl e p xp .nils ⟨0,0,0,0⟩)]).length=H3.length+3:=by simp
  generalize hH5:(H3++[zA [.ptr o 0],.cells [.bool false],.cells (W4 o L lx cl e p xp .nils ⟨0,0,0,0⟩)])=H5 at t5 bx hm5 hc5 hg5 l5
  have hF5:FxAt H5 (H.length+2) (H.length+3) (H.length+4) H3.length (H3.length+1) o mem (w:Int) false :=
    ⟨t5.get g2 (nn _),t5.get g3 (nn _),t5.get g4 (nn _),hm5,hc5⟩
  have hsys5:=o2.stp t5 fun a _=>nn a
  have hS5:SrAt H5 (H3.length+2) o A3 L lx cl e p xp [] ⟨0,0,0,0⟩ [H3.length+2] :=
    ⟨.nils,hg5,.inl ⟨rfl,rfl⟩,fun a ha hA=>by have:=hA3 a hA;simp[ZI]at ha;omega,by simp[ZI],by simp[ZI]⟩
  have hd5:∀ z∈[H.length+2,H.length+3,H.length+4,H3.length,H3.length+1],z∉[H3.length+2]/\z∉A3:=fun z hz=>by
    simp only[zE,zU,or_false]at hz ⊢;refine⟨by omega,fun hA=>?_⟩;have hlt:=hA3 z hA;rcases o4 z hA with k|k
    · have:=hSl z k;omega
    · omega
  have hnd5:[H.length+2,H.length+3,H.length+4,H3.length,H3.length+1].Nodup:=by
    simp only[zV,zE,zU,or_false,not_or,yF,not_false_eq_true,and_true];omega
  -- the runs are written
  obtain⟨hcf,hcn⟩:=ZuW mem l;have hcl:=Zki hcn;rw[hcf]at hcl;obtain⟨y13,v1,v2⟩:=Zro (mem:=mem) hx hLens (by omega) H5;have hyl:=v2.len 29
  have hcs:∀ c∈Ga mem l,c.length<=40/\∀ s∈c,s.length<=200:=fun c hc=>by
    have hsub:∀ s∈c,s∈l:=fun s hs=>by rw[<-hcf];exact List.mem_flatten.2 ⟨c,hc,hs⟩
    refine⟨?_,fun s hs=>hl200 s (hsub s hs)⟩;have:c.length<=(Ga mem l).flatten.length:=(List.sublist_flatten_of_mem hc).length_le;unfold Ga at this;rw[hcf]at this;omega
  obtain⟨H6,A6,tm6,s6,w2,w5,w6,ww⟩:=ZoX hB hav hok hqv hks v2 (by omega) hcs H5 (Ga mem l) [] [] 0 ⟨0,0,0,0⟩ _ _ A3 [H3.length+2] H5 rfl (by unfold Ga;omega) (by unfold Ga;simp;omega) (fun x hx=>by cases hx)
    (by unfold Ga;rw[hcf];simp[ZZ];omega) ⟨Int.le_refl _,by unfold Ga;show (0:Int)+_<=1000;omega⟩ (XG.start hQ) hsys5 hS5
  have lz0:=ZN hF5.z 0 (v:=J yL mem) rfl;have o1':Wy [.ptr t 0,.str [115,111,114,116],J yL 262144] H2=some (.tuple [.ptr o 0,J yL 0],H3):=o1;have hFl5:=hF5.lt;have hnd9:=hnd5
  have hF6':=hF5.stp w5 fun z hz hh=>by
    rcases zH.1 hh with k|k
    · exact (hd5 z hz).1 k
    · exact (hd5 z hz).2 k
  have hA6o':∀ z∈A6,z∈S0\/H.length<=z:=fun z hz=>by
    rcases w6 z hz with k|k
    · rcases o4 z k with k|k
      · exact .inl k
      · exact .inr (by omega)
    · exact .inr (by omega)
  have k1:Stp S0 H H3:=hS02.trans o3 (fun _ h=>h) fun a h=>.inl h;have k3:Stp S0 H H5:=k1.trans (t5.mono (B:=S0) fun a h=>absurd h (nn a)) (fun _ h=>h) fun a h=>.inl h
  have k4:Stp S0 H H6:=k3.trans w5 (fun _ h=>h) fun a hh=>by
    rcases zH.1 hh with k|k
    · rw[zB.1 k];exact .inr (by omega)
    · rcases o4 a k with k|k
      · exact .inl k
      · exact .inr (by omega)
  have hd6':∀ z∈[H.length+2,H.length+3,H.length+4,H3.length,H3.length+1],z∉A6:=fun z hz hh=>by
    have:=hFl5 z hz;rcases w6 z hh with k|k
    · exact (hd5 z hz).2 k
    · omega
  rcases ww with ⟨S6,w1,w3,w4,w7⟩|⟨er,w1,hbd⟩
  rotate_left
  · have he:=hbd.ne
    obtain⟨f1',f2',f3',f4',f5',f6',f7'⟩:=Zmp hF6'.s hF6'.e (show H.length+4≠H.length+3 by omega) er;have t7:Stp [H.length+4] H6 (H6.set (H.length+4) (.cells [J yL er])):=Stp.set _ _ (by simp);have hm7:=t7.get hF6'.m (by simp;omega);have hc7:=t7.get hF6'.c (by simp;omega);have hsys7:=w2.stp t7 fun x hx h=>hd6' (H.length+4) (by simp) (by rw[<-zB.1 h];exact hx);obtain⟨H8,s8,S8,r1,r2,r3,r4,r5⟩:=ZgK hB hbd hsys7 ⟨f6',f7',hm7,hc7⟩ (fun x hx=>hd6' x (by simp at hx ⊢;omega)) H;have hl67:=t7.len;have hl46:=k4.len;refine⟨H8,s8,S8,r2,(k4.trans t7 (fun _ h=>h) fun a h=>.inr (by rw[zB.1 h];omega)).trans r3 (fun _ h=>h) hA6o',fun z hz=>?_,?_⟩
    · rcases r4 z hz with k|k
      · exact hA6o' z k
      · exact .inr (by omega)
    · have hwr:Vi [.ptr (H3.length+2) 0,x,J yL mem] H5=some (J yL er,H6):=by
        rw[Gr];unfold QS;simp only[v1,go_sem,hyl];exact w1
      have hres:Xc [.ptr t 0,.agg (L.cells lx cl e),.agg (p.cells xp),.agg [J yL mem,J yL (w:Int)],x] H=some (.tuple [.nils,zst,J yL er],H8):=by
        rw[hstart,B3];simp only[o1',go_sem,zC,zD,sm,se,le4,e0,M8,lenm,sc,lm5,ll5,lp5,hfill,bx,zN,lz0,hwr,f1',f2',he,f3',f4',f5'];exact r1
      rcases r5 with ⟨rfl,r5⟩|⟨rfl,r5⟩
      · exact .inr (.inl ⟨hres,r5⟩)
      · exact .inr (.inr ⟨hres,r5⟩)
  rw[zN]at w3
  have hF6:=hF5.stp w5 fun z hz hh=>by
    rcases zH.1 hh with k|k
    · exact (hd5 z hz).1 k
    · exact (hd5 z hz).2 k
  have hF5l:=hF5.lt
  have hd6:∀ z∈[H.length+2,H.length+3,H.length+4,H3.length,H3.length+1],z∉S6/\z∉A6:=fun z hz=>by
    have:=hF5l z hz;refine⟨fun hh=>?_,fun hh=>?_⟩
    · rcases w7 z hh with k|k
      · exact (hd5 z hz).1 k
      · omega
    · rcases w6 z hh with k|k
      · exact (hd5 z hz).2 k
      · omega
  have l56:=w5.len
  -- the passes
  have hI:=Zu4 (L:=L) (p:=p) hcf hcn hl40 hl200;obtain⟨H7,A7,tm7,s7,u4,u8,u9,uu⟩:=Zn1 hB hav hok hsm hqv hks hkl (by omega) (by omega) ⟨by omega,by omega,by omega⟩ (.fn (.func 44) [] [.ptr (H.length+4) 0,.ptr (H3.length+1) 0,.ptr H3.length 0]) H 40 (Zrm L p (Ga mem l)) tm6 s6 A6 S6 H6 hI.len hI w3 w2 w4 hF6 hd6
  have hA7o:∀ z∈A7,z∈S0\/H.length<=z:=fun z hz=>by
    rcases u9 z hz with k|k
    · exact hA6o' z k
    · exact .inr (by have:=k4.len;omega)
  have le6:=ZN hF6.e 0 (v:=J yL 0) rfl;have hl46:=k4.len
  have k5:Stp S0 H H7:=k4.trans u8 (fun _ h=>h) fun a hh=>by
    rcases zE.1 hh with k|hh
    · exact .inr (by omega)
    rcases zH.1 hh with k|k
    · rcases w7 a k with k|k
      · rw[zB.1 k];exact .inr (by omega)
      · exact .inr (by omega)
    · exact hA6o' a k
  have l67:=u8.len
  have hwr:Vi [.ptr (H3.length+2) 0,x,J yL mem] H5=some (J yL 0,H6):=by
    rw[Gr];unfold QS;simp only[v1,go_sem,hyl];exact w1
  have hmid:Xc [.ptr t 0,.agg (L.cells lx cl e),.agg (p.cells xp),.agg [J yL mem,J yL (w:Int)],x] H=XO (.ptr (H.length+2) 0) (.ptr (H.length+3) 0) (.ptr (H.length+4) 0) (.ptr H3.length 0) (.ptr (H3.length+1) 0) (.ptr (H3.length+2) 0) (.fn (.func 44) [] [.ptr (H.length+4) 0,.ptr (H3.length+1) 0,.ptr H3.length 0]) H H6:=by
    rw[hstart,B3];simp only[o1',go_sem,zC,zD,sm,se,le4,e0,M8,lenm,sc,lm5,ll5,lp5,hfill,bx,zN,lz0,hwr,hF6.e0,le6,ZdS]
  rw[hmid];rcases uu with ⟨S7,u1,u2,u3,u5,u6,u7,u10⟩|⟨er,u1,hbd,hFb⟩
  rotate_left
  · have hd7':∀ z∈[H.length+3,H.length+4],z∉A7:=fun z hz hh=>by
      have:=hF6.lt z (by simp at hz ⊢;omega);rcases u9 z hh with k|k
      · exact hd6' z (by simp at hz ⊢;omega) k
      · omega
    obtain⟨H8,s8,S8,r1,r2,r3,r4,r5⟩:=ZgK hB hbd u4 hFb hd7' H;refine⟨H8,s8,S8,r2,k5.trans r3 (fun _ h=>h) hA7o,fun z hz=>?_,?_⟩
    · rcases r4 z hz with k|k
      · exact hA7o z k
      · exact .inr (by omega)
    · have hres:=u1.trans r1
      rcases r5 with ⟨rfl,r5⟩|⟨rfl,r5⟩
      · exact .inr (.inl ⟨hres,r5⟩)
      · exact .inr (.inr ⟨hres,r5⟩)
  obtain⟨H8,s8,S8,z3,z5,z6,zz⟩:=Zuc hB hav hok hsm hqv hks hkl hnd5 H u2 u3 u4 u5 u6 u7;rw[u1];refine⟨H8,s8,S8,z3,k5.trans z5 (fun _ h=>h) fun a hh=>?_,fun z hz=>?_,zz.imp id .inl⟩
  · rcases zE.1 hh with k|hh
    · exact .inr (by omega)
    rcases zE.1 hh with k|hh
    · exact .inr (by omega)
    rcases zE.1 hh with k|hh
    · exact .inr (by omega)
    · exact hA7o a hh
  · rcases z6 z hz with k|k
    · exact hA7o z k
    · exact .inr (by omega)
def FN:Zm:=[100,97,116,97]
def Zlw:Zm:=[107,101,112,116]
def Vm (n:Nat):Fil:=⟨FN,Zlw,n⟩
theorem Zaf {n:Nat}(j:n<=4):BOk [Vm n] :=
 ⟨by simp,fun f h=>by rw[zB.1 h];kernel_rfl,fun f h=>by rw[zB.1 h];exact j,by simp,by show 4+0<=1000;omega,fun f h i=>by
  rw[zB.1 h];intro e;have:=congrArg (fun l=>l.headD 0) e;exact absurd this (by show ¬ ((100:UInt8)=(ZJ i).headD 0);have:(ZJ i).headD 0=46:=rfl;rw[this];decide)⟩
def FU (k i:Nat):Nat:=k / 2 ^ (8*(i % 8)) % 256
def VY (k i:Nat)(f:Fil):Fil:=⟨f.name,f.text.take (f.syn+min (FU k i) (f.text.length-f.syn)),f.syn+min (FU k i) (f.text.length-f.syn)⟩
def ZgG (k:Nat):Nat->List Zm->List Fil->List Fil
 |_,[],l=>l
 |i,n::r,l=>ZgG k (i+1) r (X6 l n (VY k i))
def Sto.restart (s:Sto)(k:Nat):Sto:={ s with crashed:=false,count:=0,files:=ZgG k 0 (VT (s.files.map Fil.name)) s.files }
theorem Zbr (l:List Fil)(n:Zm)(u:Fil->Fil)(h:∀ f,(u f).name=f.name):(X6 l n u).map Fil.name=l.map Fil.name:=by
 induction l with
 |nil=>rfl
 |cons f l j =>
  rw[X6];split
  ·simp[h]
  ·simp[j]
theorem Zuh (l:List Fil)(n:Zm)(u:Fil->Fil)(h:∀ f,(u f).text.length<=f.text.length):Zr (X6 l n u)<=Zr l:=by
 induction l with
 |nil=>exact zL _
 |cons f l j =>
  rw[X6];split
  ·have:=h f;simp only[Zr];omega
  ·simp only[Zr];omega
theorem ZnB {P:Fil->Prop}(l:List Fil)(n:Zm)(u:Fil->Fil)(hl:∀ f∈l,P f)(h:∀ f,P f->P (u f)):∀ f∈X6 l n u,P f:=by
 induction l with
 |nil=>intro f j;cases j
 |cons x l z =>
  rw[X6];split
  ·intro f j;rcases zE.1 j with rfl|j
   ·exact h x (hl x (by simp))
   ·exact hl f (by simp[j])
  ·intro f j;rcases zE.1 j with rfl|j
   ·exact hl _ (by simp)
   ·exact z (fun g y=>hl g (by simp[y])) f j
theorem Zxz (k i:Nat)(f:Fil):(VY k i f).text.length<=f.text.length:=by simp[VY];omega
theorem ZyC {s:Sto}(hk:StoOk s)(k i:Nat)(n:Zm):StoOk { s with files:=X6 s.files n (VY k i) }:=by
 have j:=Zbr s.files n (VY k i) fun _=>rfl;have u:=Zuh s.files n (VY k i) (Zxz k i);have y:=hk.used;have z:=hk.len;refine⟨hk.limit,yA u y,hk.peak,ZnB s.files n _ hk.name fun f h=>h,by show ((X6 s.files n (VY k i)).map Fil.name).Nodup;rw[j];exact hk.nd,ZnB (P:=fun f=>f.syn<=f.text.length) s.files n _ hk.syn fun f h=>?_,?_,hk.count⟩
 ·show f.syn+min (FU k i) (f.text.length-f.syn)<=(f.text.take (f.syn+min (FU k i) (f.text.length-f.syn))).length;rw[yC];omega
 ·show (X6 s.files n (VY k i)).length<=64;have:=congrArg List.length j;rw[zM,zM]at this;omega
theorem Zlk {H:Hp}{o:Nat}{s:Sto}{A:List Nat}(h:StoreAt H o s A)(hk:StoOk s)(k:Nat){x:AV}{ns:List Zm}(hx:SS x ns){i:Nat}{n:Zm}(hi:ns[i]?=some n)(ap:i<=64){f:Fil}(hn:ZP s.files n=some f)(nl:AV)(H0:Hp) :
 ∃ H' A',QY (.ptr o 0) (.int .u64 (k:Int)) x nl (J yL (i:Int)) (.bool true) H0 H=QZ (.ptr o 0) (.int .u64 (k:Int)) x nl (J yL (i:Int)) H0 H'/\StoRes H H' o { s with files:=X6 s.files n (VY k i) } A A':=by
 obtain⟨m,ab,ds,h,rfl⟩:=h;have U:=SS.idx hx hi;have l3:=ZN h.cells 3 (v:=.map m) rfl;rcases h.look n with ⟨k,_⟩|⟨a,d,b,rfl,c3,c4,c5,c6⟩
 ·rw[hn]at k;cases k
 obtain⟨k1,R,k3,k4⟩:=h.mid;have ah:d.fil∈s.files:=by rw[<-h.files];simp
 have ax:=hk.syn _ ah;have am:=hk.used;have aq:=hk.limit;have au:d.fil.text.length<=Zr s.files:=by rw[<-h.files,zP,yH,Bh];omega
 have T:X6 s.files n (VY k i)=a.map FD.fil++VY k i d.fil::b.map FD.fil:=by
  rw[<-h.files];exact CR a d b n (VY k i) c3 c4
 generalize hz:d.fil.syn+min (FU k i) (d.fil.text.length-d.fil.syn)=z;have an:z<=d.fil.text.length:=by omega
 have j:VY k i d.fil=⟨d.fil.name,d.fil.text.take z,z⟩:=by unfold VY;rw[hz]
 have ai:Zr (a.map FD.fil++VY k i d.fil::b.map FD.fil)=Zr s.files-(d.fil.text.length-z):=by
  have hf:Zr s.files=Zr (a.map FD.fil++d.fil::b.map FD.fil):=by rw[<-h.files,zP,yH]
  rw[hf,Bh,Bh,j];show _+((d.fil.text.take z).length+_)=_;rw[yC];omega
 have m0:=ZN R.cells 0 (v:=d.tx) rfl;have m1:=ZN R.cells 1 (v:=J yL (d.fil.syn:Int)) rfl;have V:=R.text.len 5;have Z:Z5 .rem (J yL (i:Int)) (J yL 8)=some (J yL ((i % 8:Nat):Int)):=ZzM i
 have X:Z5 .mul (J yL 8) (J yL ((i % 8:Nat):Int))=some (J yL ((8*(i % 8):Nat):Int)):=by
  have:yK.wrap (8*((i % 8:Nat):Int))=((8*(i % 8):Nat):Int):=by rw[Zp (by omega) (by omega)];omega
  simp only[go_sem,this]
 have hb:min (8*(i % 8)) IntKind.u64.bits=8*(i % 8):=Nat.min_eq_left (by show 8*(i % 8)<=64;omega)
 have aa:Z5 .shr (.int .u64 (k:Int)) (J yL ((8*(i % 8):Nat):Int))=some (.int .u64 ((k / 2 ^ (8*(i % 8)):Nat):Int)):=by
  rw[R0];unfold DK;rw[hb,Int.fdiv_eq_ediv_of_nonneg _ (Int.pow_nonneg (by decide))];have:(2:Int) ^ (8*(i % 8))=((2 ^ (8*(i % 8)):Nat):Int):=by simp
  rw[this,<-Int.natCast_ediv]
 have M:Z5 .rem (.int .u64 ((k / 2 ^ (8*(i % 8)):Nat):Int)) (.int .u64 256)=some (.int .u64 ((FU k i:Nat):Int)):=by
  unfold Z5 XB;simp only[if_true,XF];rw[if_neg (by omega)];congr 2
 have aw:FU k i<256:=Nat.mod_lt _ (by decide)
 have ag:Yq .i64 (.int .u64 ((FU k i:Nat):Int))=some (J yL ((FU k i:Nat):Int)):=by
  unfold Yq;dsimp only;rw[Zp (by omega) (by omega)]
 have aj:yK.wrap ((d.fil.text.length:Int)-(d.fil.syn:Int))=((d.fil.text.length-d.fil.syn:Nat):Int):=by rw[Zp (by omega) (by omega)];omega
 have W:VN (J yL ((FU k i:Nat):Int)) (J yL ((d.fil.text.length-d.fil.syn:Nat):Int))=some (J yL ((min (FU k i) (d.fil.text.length-d.fil.syn):Nat):Int)):=by
  simp[VN];omega
 have ae:yK.wrap ((d.fil.syn:Int)+((min (FU k i) (d.fil.text.length-d.fil.syn):Nat):Int))=(z:Int):=by rw[Zp (by omega) (by omega)];omega
 have ak:yK.wrap ((d.fil.text.length:Int)-(z:Int))=((d.fil.text.length-z:Nat):Int):=by rw[Zp (by omega) (by omega)];omega
 have I:H[o]?=some (.cells (YD m s)):=h.cells;have l1:=ZN I 1 (v:=J yL (Zr s.files:Int)) rfl;have al:yK.wrap ((Zr s.files:Int)-((d.fil.text.length-z:Nat):Int))=((Zr s.files-(d.fil.text.length-z):Nat):Int):=by rw[Zp (by omega) (by omega)];omega
 have s1:=V9 I 1 (v:=J yL ((Zr s.files-(d.fil.text.length-z):Nat):Int)) rfl rfl (by simp[YD]);have g1:=Zq (zA (zF (YD m s) 1 (J yL ((Zr s.files-(d.fil.text.length-z):Nat):Int)))) I;have K:=k3 d.f (by simp[FD.own]);have C:=Yd (zA (zF (YD m s) 1 (J yL ((Zr s.files-(d.fil.text.length-z):Nat):Int)))) (fun e=>K.1 e.symm) R.cells;obtain⟨O,p1,p2,p3,p4,p5⟩:=R.text.cut (n:=z) an;have u:Stp [o] H (H.set o (.cells (zF (YD m s) 1 (J yL ((Zr s.files-(d.fil.text.length-z):Nat):Int))))):=Stp.set _ _ (by simp);generalize ar:H.set o (.cells (zF (YD m s) 1 (J yL ((Zr s.files-(d.fil.text.length-z):Nat):Int))))=H1 at s1 g1 C u;have ao:=ZN C 0 (v:=d.tx) rfl;have s2:=V9 C 0 (v:=O) p4 p5 (by simp);have g2:=Zq (zA (zF [d.tx,J yL (d.fil.syn:Int)] 0 O)) C;have s3:=V9 g2 1 (v:=J yL (z:Int)) rfl rfl (by simp);have g3:=Zq (zA (zF (zF [d.tx,J yL (d.fil.syn:Int)] 0 O) 1 (J yL (z:Int)))) g2;generalize ac:H1.set d.f (.cells (zF [d.tx,J yL (d.fil.syn:Int)] 0 O))=H2 at s2 g2 s3 g3;generalize ad:H2.set d.f (.cells (zF (zF [d.tx,J yL (d.fil.syn:Int)] 0 O) 1 (J yL (z:Int))))=Q at s3 g3
 have E:Stp [d.f] H1 Q:=by
  rw[<-ad,<-ac];exact (Stp.set _ _ (by simp)).trans (Stp.set _ _ (by simp)) (fun _ h=>h) fun _ h=>.inl h
 have hS:Stp (o::d.own) H Q:=u.trans E (fun a F=>by simp[zB.1 F]) fun a F=>.inl (by simp[FD.own,zB.1 F]);have Y:=h.om;have N:({ d with fil:=VY k i d.fil,tx:=O }:FD).own=[d.f]:=by simp[FD.own,p2]
 have af:=h.upd (d':={ d with fil:=VY k i d.fil,tx:=O }) (s':={ s with files:=X6 s.files n (VY k i) }) (H':=Q) (by rw[E.get g1 (by simpa using fun e=>K.1 e.symm)];show some (zA [_,_,_,_,_,_])=some (zA [_,J yL ((Zr (X6 s.files n (VY k i)):Nat):Int),_,_,_,_]);rw[T,ai]) (by rw[E.at' m (Zg (u.get h.map (by simpa using Ne.symm Y))) (by simpa using fun e=>K.2 e.symm),u.get h.map (by simpa using Ne.symm Y),h.map]) rfl T
  ⟨by rw[g3,j];rfl,by have:=p3 Q;rw[j];exact this⟩ hS (by rw[N];simp) (fun y D=>.inl (by rw[N]at D;simp[FD.own,zB.1 D]))
 refine⟨Q,_,?_,⟨⟨m,ab,_,af,rfl⟩,hS.mono fun a F=>?_,fun y D=>?_⟩⟩
 ·rw[EB];simp only[go_sem,U,Zz,zN,l3,c6,Z,X,aa,M,ag,m1,m0,V,aj,W,ae,ak,l1,al,s1,ao,p1,s2,s3]
 ·rcases zE.1 F with e|F
  ·simp[e]
  ·rw[zE,zE,zQ,zS];exact .inr (.inr (by simp[F]))
 ·rw[zE,zE,zQ,zS,N]at D;refine .inl ?_;rw[zE,zE,zQ,zS];rcases D with e|e|D
  ·exact .inl e
  ·exact .inr (.inl e)
  ·refine .inr (.inr ?_);simp only[zH]at D ⊢;rcases D with k|k|k
   ·exact .inl k
   ·exact .inr (.inl (by simp[FD.own,zB.1 k]))
   ·exact .inr (.inr k)
theorem Zlj {o:Nat}(k:Nat){x:AV}{j:List Zm}(W:SS x j)(hl:j.length<=64)(I:Hp):∀ (r d:List Zm) (H:Hp) (A:List Nat) (s:Sto),j=d++r->StoreAt H o s A->StoOk s->(∀ n∈j,∃ f,ZP s.files n=some f) ->
 ∃ H' A',Vt (.ptr o 0) (.int .u64 (k:Int)) x (J yL (j.length:Int)) (J yL (d.length:Int)) I H=some (.tuple [],H')/\StoRes H H' o { s with files:=ZgG k d.length r s.files } A A'/\StoOk { s with files:=ZgG k d.length r s.files }:=by
 intro r
 induction r with
 |nil =>
  intro d H A s u h hk z;rw[zG]at u;subst u;have y:decide ((j.length:Int)<(j.length:Int))=false:=by simp
  refine⟨H,A,?_,⟨h,Stp.refl _ _,fun a T=>.inl T⟩,hk⟩;rw[GI];simp only[go_sem,y]
 |cons n r X =>
  intro d H A s u h hk z;have D:j.length=d.length+(r.length+1):=by rw[u];simp
  have y:decide ((d.length:Int)<(j.length:Int))=true:=by simp;omega
  have F:yK.wrap ((d.length:Int)+1)=((d.length+1:Nat):Int):=by rw[Zp (by omega) (by omega)];omega
  have C:j[d.length]?=some n:=by rw[u,zI (zL _)];simp
  obtain⟨f,U⟩:=z n (by rw[u];simp);obtain⟨H1,A1,Y,K⟩:=Zlk h hk k W C (by omega) U (J yL (j.length:Int)) I;have E:=Zbr s.files n (VY k d.length) fun _=>rfl
  obtain⟨Q,A2,M,N,O⟩:=X (d++[n]) H1 A1 { s with files:=X6 s.files n (VY k d.length) } (by rw[u];simp) K.at' (ZyC hk k d.length n) (fun m hm=>by
   obtain⟨g,V⟩:=z m hm;refine C0 ?_;show m∈(X6 s.files n (VY k d.length)).map Fil.name;rw[E];obtain⟨a,b,e,R,_⟩:=TD V;rw[e,<-R];simp)
  rw[zZ,zW]at M N O;refine⟨Q,A2,?_,K.trans N,O⟩;rw[GI];simp only[go_sem,y,Y,EC,F];exact M
theorem ZfO {H:Hp}{o:Nat}{s:Sto}{A:List Nat}(h:StoreAt H o s A)(hk:StoOk s)(k:Nat) :
 ∃ H' A',VJ [.ptr o 0,.int .u64 (k:Int)] H=some (.tuple [],H')/\StoRes H H' o (s.restart k) A A'/\StoOk (s.restart k):=by
 obtain⟨m,z,T,h,rfl⟩:=h;have y:Yr (.pointer 82) .eql (.ptr o 0) .nilp=some (.bool false):=rfl;have j:H[o]?=some (.cells (YD m s)):=h.cells;have R:=V9 j 4 (v:=.bool false) rfl rfl (by simp[YD]);have C:=Zq (zA (zF (YD m s) 4 (.bool false))) j;have M:=V9 C 5 (v:=J yL 0) rfl rfl (by simp[YD]);have D:=Zq (zA (zF (zF (YD m s) 4 (.bool false)) 5 (J yL 0))) C;generalize F:H.set o (.cells (zF (YD m s) 4 (.bool false)))=H1 at R C M D;generalize I:H1.set o (.cells (zF (zF (YD m s) 4 (.bool false)) 5 (J yL 0)))=N at M D
 have O:Stp [o] H N:=by
  rw[<-I,<-F];exact (Stp.set _ _ (by simp)).trans (Stp.set _ _ (by simp)) (fun _ h=>h) fun _ h=>.inl h
 have E:=h.cell (s':={ s with crashed:=false,count:=0 }) O D rfl;have u:StoOk { s with crashed:=false,count:=0 }:=⟨hk.limit,hk.used,hk.peak,hk.name,hk.nd,hk.syn,hk.len,by simp⟩;obtain⟨x,V,Q⟩:=Zkz E u;have K:(VT (s.files.map Fil.name)).length<=64:=by rw[(QN _).length_eq,zM];exact hk.len
 obtain⟨H',A',W,X,Y⟩:=Zlj k Q K H _ [] N _ { s with crashed:=false,count:=0 } rfl ⟨m,z,T,E,rfl⟩ u (fun n U=>C0 ((Mp _ _).1 U));refine⟨H',A',?_,(E.res O).trans X,Y⟩;rw[Si];unfold Rn;simp only[y,go_sem,EA,zN,R,M,V,SS.len Q 9];exact W
theorem Zv6 (k i:Nat){f:Fil}(h:f.syn=f.text.length):VY k i f=f:=by
 unfold VY;rw[h,Nat.sub_self,Nat.min_zero,Nat.add_zero,List.take_of_length_le (zL _)];cases f;dsimp only at h ⊢;rw[h]
theorem ZwN (B T:List Fil)(n:Zm)(u:Fil->Fil)(j:∀ f∈B,u f=f)(C:∀ f,(u f).name=f.name):∃ h,X6 (B++T) n u=B++h/\h.map Fil.name=T.map Fil.name:=by
 induction B with
 |nil=>exact⟨X6 T n u,rfl,Zbr T n u C⟩
 |cons f B D =>
  obtain⟨h,y,z⟩:=D fun g A=>j g (by simp[A]);rw[List.cons_append];unfold X6;split
  ·exact⟨T,by rw[j f (by simp)];rfl,rfl⟩
  ·exact⟨h,by rw[y];rfl,z⟩
theorem Zv7 (k:Nat){B:List Fil}(hB:∀ f∈B,f.syn=f.text.length):∀ (h:List Zm) (i:Nat) (T:List Fil),∃ j,ZgG k i h (B++T)=B++j/\j.map Fil.name=T.map Fil.name:=by
 intro h
 induction h with
 |nil=>intro i T;exact⟨T,rfl,rfl⟩
 |cons n h F =>
  intro i T;obtain⟨u,z,A⟩:=ZwN B T n (VY k i) (fun f E=>Zv6 k i (hB f E)) fun _=>rfl;obtain⟨y,C,D⟩:=F (i+1) u;exact⟨y,by rw[ZgG,z];exact C,D.trans A⟩
theorem Zg2 {B:List Fil}(hB:∀ f∈B,f.syn=f.text.length){lim:Nat}(h:lim<=262145){s:Sto}{k:Nat}(hk:StoOk (s.restart k))(hl:s.limit=min lim 262144)
 (j:∃ T,s.files=B++T/\∀ f∈T,∃ i,1<=i/\i<=128/\f.name=ZJ i):Lft B lim (s.restart k):=by
 obtain⟨T,C,D⟩:=j;obtain⟨z,y,E⟩:=Zv7 k hB (VT (s.files.map Fil.name)) 0 T;refine⟨hk,hl,rfl,⟨h,by show 0<=_;omega,.inl rfl⟩,z,by show ZgG k 0 _ s.files=_;rw[C]at y ⊢;exact y,fun f j=>?_⟩;have:f.name∈T.map Fil.name:=by rw[<-E];exact zJ j
 obtain⟨A,u,e⟩:=yI.1 this;rw[<-e];exact D A u
theorem Zn5 {t:Nat}{x:AV}{j:List Zm}(V:SS x j)(hl:j.length<=64)(Q:Hp):∀ (r d:List Zm) (H:Hp) (S:List Nat) (s:Sto),j=d++r->StoreAt H t s S->ROk s ->
 ∃ H' R,VB (.ptr t 0) (J yL (d.length:Int)) x (J yL (j.length:Int)) (J yL (d.length:Int)) Q H=(if (Y6 r s).1≠0 then some (.tuple [J yL 0,J yL (Y6 r s).1],H') else some (.tuple [J yL (j.length:Int),J yL 0],H'))/\StoRes H H' t (Y6 r s).2 S R:=by
 intro r
 induction r with
 |nil =>
  intro d H S s A h hk;rw[zG]at A;subst A;have u:decide ((j.length:Int)<(j.length:Int))=false:=by simp
  refine⟨H,S,?_,⟨h,Stp.refl _ _,fun a U=>.inl U⟩⟩;rw[Rx,Y6,if_neg (by simp)];simp only[go_sem,u,Oh]
 |cons n r W =>
  intro d H S s A h hk;have K:j.length=d.length+(r.length+1):=by rw[A];simp
  have u:decide ((d.length:Int)<(j.length:Int))=true:=by simp;omega
  have E:yK.wrap ((d.length:Int)+1)=((d.length+1:Nat):Int):=by rw[Zp (by omega) (by omega)];omega
  have D:j[d.length]?=some n:=by rw[A,zI (zL _)];simp
  have y:=SS.idx V D;obtain⟨H1,I,M,F⟩:=E6 h hk.sto n;rw[Rx];by_cases C:(s.remove n).1=0
  ·have e0:((s.remove n).1 != 0)=false:=by rw[C];rfl
   have z:Y6 (n::r) s=Y6 r (s.remove n).2:=by rw[Y6,if_neg (by simp[C])]
   obtain⟨O,T,N,X⟩:=W (d++[n]) H1 I _ (by rw[A];simp) F.at' (ZiL hk n);rw[zZ,zW]at N;rw[z];refine⟨O,T,?_,F.trans X⟩;simp only[go_sem,u,Rw,y,Zz,M,e0,Oj,Oi,E];exact N
  ·have e0:((s.remove n).1 != 0)=true:=by simpa using C
   have z:Y6 (n::r) s=s.remove n:=by rw[Y6,if_pos C]
   rw[z];refine⟨H1,I,?_,F⟩;rw[if_pos C];simp only[go_sem,u,Rw,y,Zz,M,e0]
theorem Zdr {B:List Fil}(M:∀ f∈B,JI Wu f.name=false){lim:Nat}{s:Sto}(j:Lft B lim s){H:Hp}{t:Nat}{S:List Nat}(h:StoreAt H t s S) :
 ∃ H' s' E,StoRes H H' t s' S E/\(WM [.ptr t 0] H=some (.tuple [J yL ((Wo Wu s).length:Int),J yL 0],H')/\Qt B lim s'\/WM [.ptr t 0] H=some (.tuple [J yL 0,J yL 19],H')/\Lost B lim s'):=by
 have hR:ROk s:=⟨j.sto,fun h=>by rw[j.crashed]at h;cases h⟩;obtain⟨l1,O,l3⟩:=j.left M;obtain⟨K,g2,g3,g4⟩:=Zg8 (Wo Wu s) s j.sto j.crashed l1 O l3;have A:=g2.trans j.lm;have hu:=K.used;have hp:=K.peak;obtain⟨x,q1,U⟩:=Zp0 h j.sto Wu (by show 4<=_;omega);have N:=U.len 9;obtain⟨H',E,V,r2⟩:=Zn5 U (Zkt Wu j.sto) H (Wo Wu s) [] H S s rfl h hR;have hz:((([]:List Zm).length:Nat):Int)=0:=rfl;rw[hz]at V
 have hF:WM [.ptr t 0] H=VB (.ptr t 0) (J yL 0) x (J yL ((Wo Wu s).length:Int)) (J yL 0) H H:=by
  have C:Yr (.pointer 82) .eql (.ptr t 0) .nilp=some (.bool false):=rfl;have Q:JQ VK [.ptr t 0,.str [115,111,114,116]] H=some (x,H):=q1;rw[OW];unfold Lh;simp only[C,go_sem,Og,Q,N]
 rw[hF,V];refine⟨H',_,E,r2,?_⟩;rcases g4 with ⟨D,F,I⟩|⟨D,F,I,W⟩
 ·rw[if_neg (by simp[D])];rw[I]at hu;exact .inl ⟨rfl,A,by omega,I,F,j.cn.less g3,by omega⟩
 ·rw[if_pos (by rw[D];decide),D];refine .inr ⟨rfl,K,A,?_,F,?_⟩
  ·rcases j.cn.2.2 with h|h
   ·omega
   ·exact h
  ·obtain⟨T,Y,Z⟩:=W;refine⟨T,Y,fun f hf=>?_⟩;obtain⟨T0,t1,t2⟩:=j.files;have R:=Z f hf;have hm:=(O _ R).2;obtain⟨X,z⟩:=zR.1 hm;obtain⟨_,_,_,u,_⟩:=TD z;have y:=C1 z;rw[t1]at y;rcases zH.1 y with h|h
   ·exact absurd (by rw[<-u];exact zJ h) (O _ R).1
   ·rw[<-u];exact t2 X h
structure CEnv (c0 c1:List AV)(H:Hp)(t:Nat)(s:Sto)(S:List Nat):Prop where
 at':StoreAt H t s S
 o:H[0]?=some (.cells c0)
 f:H[1]?=some (.cells c1)
 lo:∀ a∈S,2<=a
section
variable {c0 c1:List AV}{H:Hp}{t:Nat}{s:Sto}{S:List Nat}
end
theorem Zal (n:Nat):∀ f∈[Vm n],JI Wu f.name=false:=fun f h=>by rw[zB.1 h];kernel_rfl
theorem Zme:∀ f∈[Vm 4],f.syn=f.text.length:=fun f h=>by rw[zB.1 h];rfl
theorem Qt.eq {B:List Fil}{s:Sto}(h:Qt B 262145 s):s=⟨262144,s.peak,B,false,0⟩:=by
 have j:=h.lm;have u:=h.files;have y:=h.crashed;have z:s.count=0:=by rcases h.cn.2.2 with h|h <;> omega
 cases s;dsimp only at j u y z ⊢;subst u y z;rw[j];rfl
theorem Zx2 {B:List Fil}{s:Sto}(h:Lost B 262145 s):False:=by have:=h.big;omega
theorem Ztf {c0 c1:List AV}{H:Hp}{t:Nat}{s:Sto}{S:List Nat}(h:CEnv c0 c1 H t s S)(u:Qt [Vm 4] 262145 s) :
 ∃ j,JQ Xn [.ptr t 0] H=some (j,H)/\Zk (.slice 108) j=some (J yL 1):=by
 obtain⟨j,y,z⟩:=Zjj h.at' (u.sto (Zaf (by omega)));have:=Sl.len z 108;rw[zM,u.files]at this;exact⟨j,y,this⟩
theorem ZsG {x:AV}{l:List Zl}(K:SS x l)(hl:l.length<=1048576)(U:We l)(M H:Hp):∀ (r d:List Zl),l=d++r->(∀ s∈d,s.length<=200)->∃ b,Q7 x (J yL (d.length:Int)) M H=some (.bool b,H)/\(b=true->ZwQ l):=by
 have C:=SS.len K 9;intro r
 induction r with
 |nil =>
  intro d A hs;rw[zG]at A;subst A;have j:decide ((l.length:Int)<(l.length:Int))=false:=by simp
  refine⟨decide ((l.length:Int)<=40),?_,fun D=>⟨by rw[decide_eq_true_eq]at D;omega,hs⟩⟩;rw[Vu];simp only[go_sem,C,j,FE]
 |cons s r T =>
  intro d A hs;have I:l.length=d.length+(r.length+1):=by rw[A];simp
  have j:decide ((d.length:Int)<(l.length:Int))=true:=by rw[decide_eq_true_eq];omega
  have E:l[d.length]?=some s:=by rw[A,zI (zL _)];simp
  have z:=SS.idx K E;have F:yK.wrap ((d.length:Int)+1)=((d++[s]).length:Int):=by rw[Zp (by omega) (by omega)];simp
  by_cases Q:d.length<41
  ·have u:decide ((d.length:Int)<41)=true:=by rw[decide_eq_true_eq];omega
   by_cases V:200<s.length
   ·have c1:decide ((200:Int)<(s.length:Int))=true:=by rw[decide_eq_true_eq];omega
    refine⟨false,?_,fun h=>by cases h⟩;rw[Vu];simp only[go_sem,C,j,u,FF,z,Zz,c1]
   ·have c1:decide ((200:Int)<(s.length:Int))=false:=by rw[decide_eq_false_iff_not];omega
    obtain⟨b,N,O⟩:=T (d++[s]) (by rw[A];simp) (fun y R=>by
     rcases zH.1 R with h|h
     ·exact hs y h
     ·rw[zB.1 h];omega)
    refine⟨b,?_,O⟩;rw[Vu];simp only[go_sem,C,j,u,FF,z,Zz,c1,IG,F];exact N
  ·have u:decide ((d.length:Int)<41)=false:=by rw[decide_eq_false_iff_not];omega
   refine⟨decide ((l.length:Int)<=40),?_,fun D=>by rw[decide_eq_true_eq]at D;omega⟩;rw[Vu];simp only[go_sem,C,j,u,FE]
theorem ZsF {x:AV}{l:List Zl}(y:SS x l)(hl:l.length<=1048576)(u:We l)(H:Hp):∃ b,Zh GR [x] H=some (.bool b,H)/\(b=true->ZwQ l):=by
 obtain⟨C,h,j⟩:=SS.closed y [] 0 7;obtain⟨b,z,A⟩:=ZsG j hl u [] [] l [] rfl (fun s hs=>by cases hs);refine⟨b,U2 (args':=[C]) (H1:=[]) (by rw[zX,h];rfl) ?_ rfl,A⟩;rw[O5];unfold NY;exact z
theorem ZoA {x y:AV}{l:List Zl}(I:SS x l)(M:SS y l)(hl:l.length<=1048576)(K H:Hp):∀ (r d:List Zl),l=d++r->VV x y (J yL (d.length:Int)) K H=some (.bool true,H):=by
 have F:=SS.len I 9;intro r
 induction r with
 |nil =>
  intro d j;rw[zG]at j;subst j;have h:decide ((l.length:Int)<(l.length:Int))=false:=by simp
  rw[Bg];simp only[go_sem,F,h,CN]
 |cons s r N =>
  intro d j;have E:l.length=d.length+(r.length+1):=by rw[j];simp
  have h:decide ((d.length:Int)<(l.length:Int))=true:=by rw[decide_eq_true_eq];omega
  have u:l[d.length]?=some s:=by rw[j,zI (zL _)];simp
  have z:=SS.idx I u;have A:=SS.idx M u;have D:yK.wrap ((d.length:Int)+1)=((d++[s]).length:Int):=by rw[Zp (by omega) (by omega)];simp
  have C:(s==s)=true:=beq_self_eq_true _;have:=N (d++[s]) (by rw[j];simp);rw[Bg];simp only[go_sem,F,h,CO,z,A,Zz,C,zO,CP,D];exact this
theorem Zg4 {x y:AV}{l:List Zl}(C:SS x l)(D:SS y l)(hl:l.length<=1048576)(H:Hp):Zh Uf [x,y] H=some (.bool true,H):=by
 obtain⟨F,z,j⟩:=SS.closed C [] 0 7;obtain⟨I,E,u⟩:=SS.closed D [] 0 7;have A:=SS.len j 9;have hm:=SS.len u 9;have h:((l.length:Int) != (l.length:Int))=false:=by simp
 refine U2 (args':=[F,I]) (H1:=[]) (by rw[zX,z,zX,E];rfl) ?_ rfl;rw[CY];unfold T6;simp only[go_sem,A,hm,h,CM];exact ZoA j u hl [] [] l [] rfl
theorem exT:ZO defL plainP [[98],[97]]=[[97],[98]]:=by kernel_rfl
theorem BH (H:Hp):Zh Wj [] H=some (.bool true,H):=by
 refine U2 (args':=[]) (H1:=[]) rfl ?_ rfl;obtain⟨a,C,D⟩:=L2 [];have F:We [[98],[97]]:=fun s hs=>by simp at hs;rcases hs with h|h <;> subst h <;> decide
 obtain⟨y,E,j⟩:=ZeA D Zlt (Zzr plainP rfl) (ZyU rfl) (Zte [[98],[97]] .clip) F (by decide) [];rw[exT]at j;have u:(YS [(1,1,(J yL (-1)))] [.nils,(J yL 0),(J yL 0),(.bool false),(.bool false)]).map yG=some (.agg (plainP.cells .nils)):=rfl;have z:(ZB 1 [(0,(.str [98])),(1,(.str [97]))] [(.str []),(.str [])]).map (AV.vs 1 .clip)=some (.vs 1 .clip ([[98],[97]].map yJ)):=rfl;have A:(ZB 1 [(0,(.str [97])),(1,(.str [98]))] [(.str []),(.str [])]).map (AV.vs 1 .clip)=some (.vs 1 .clip ([[97],[98]].map yJ)):=rfl;have hs:=Zg4 j (Zte [[97],[98]] .clip) (by decide) [];rw[Sp];unfold Rr;simp only[C,go_sem,u,z,E,A,hs]
structure TEnv (c0 c1 c2:List AV)(H:Hp)(t:Nat)(s:Sto)(S:List Nat):Prop where
 at':StoreAt H t s S
 o:H[0]?=some (.cells c0)
 f:H[1]?=some (.cells c1)
 l:H[2]?=some (.cells c2)
 lo:∀ a∈S,3<=a
section
variable {c0 c1 c2:List AV}{H:Hp}{t:Nat}{s:Sto}{S:List Nat}
theorem TEnv.step (h:TEnv c0 c1 c2 H t s S){H':Hp}{s':Sto}{j:List Nat}(y:StoreAt H' t s' j)(u:Stp S H H')(z:∀ a∈j,a∈S\/H.length<=a):TEnv c0 c1 c2 H' t s' j :=
 ⟨y,u.get h.o fun hm=>by have:=h.lo _ hm;omega,u.get h.f fun hm=>by have:=h.lo _ hm;omega,u.get h.l fun hm=>by have:=h.lo _ hm;omega,fun a A=>by
  rcases z a A with k|k
  ·exact h.lo a k
  ·have:=Zg h.l;omega⟩
theorem TEnv.res (h:TEnv c0 c1 c2 H t s S){H':Hp}{s':Sto}{j:List Nat}(k:StoRes H H' t s' S j):TEnv c0 c1 c2 H' t s' j:=h.step k.at' k.stp k.own
theorem TEnv.c (h:TEnv c0 c1 c2 H t s S):CEnv c0 c1 H t s S:=⟨h.at',h.o,h.f,fun a j=>by have:=h.lo a j;omega⟩
theorem Zk0 (h:TEnv c0 c1 c2 H t s S){a q x:AV}{L:Loc}{p:Spec}{l:List Zl}(V:LocAV a L)(hok:LocOk L)(hsm:LocSm L)(hq:SpecAV q p)(hks:∀ k∈p.keys,KeOk k)(hkl:p.keys.length<=1048576)(hx:SS x l)(E:l.length<=40)(C:∀ s∈l,s.length<=200)
 {B:List Fil} (hB:BOk B) (Q:∀ f∈B,JI Wu f.name=false) {lim:Nat} {w:Nat} {mem:Int} (W:MH p mem (w:Int) l=0) (hL:Lft B lim s) :
 ∃ j u y R O s' S',Xc [.ptr t 0,a,q,.agg [J yL mem,J yL (w:Int)],x] H=some (.tuple [y,CB R,J yL O],j) /\
  Za 4 (.ptr j.length 0) (CB R) (j++[.cells [J yL 0,J yL 0,J yL 0,J yL 0]])=some (.tuple [],u)/\TEnv c0 c1 c2 u t s' S' /\
  (O=0/\SS y (ZO L p l)/\Qt B lim s'\/O=19/\y=.nils/\Lost B lim s'\/O=12/\y=.nils/\Qt B lim s'/\lim<262144):=by
 obtain⟨j,s',N,Z,r2,r3,r4⟩:=Zur V hok hsm hq hks hkl hx E C hB Q W hL h.at';have D:=h.step Z r2 r3
 have z:∀ R:Stt,∃ u,Za 4 (.ptr j.length 0) (CB R) (j++[.cells [J yL 0,J yL 0,J yL 0,J yL 0]])=some (.tuple [],u)/\TEnv c0 c1 c2 u t s' N:=fun R=>by
  have Y:(j++[zA [yB .i64 0,J yL 0,J yL 0,J yL 0]])[j.length]?=some (.cells [yB .i64 0,J yL 0,J yL 0,J yL 0]):=by simp
  have F:=WT (off:=0) (sz:=4) (v:=CB R) Y rfl rfl (by simp);have hS:=Z.lt;have k:=(Stp.push (A:=[j.length]) j [zA [yB .i64 0,J yL 0,J yL 0,J yL 0]]).trans (Stp.set (A:=[j.length]) _ (zA (splice [yB .i64 0,J yL 0,J yL 0,J yL 0] 0 (CB R).cells)) (show j.length∈[j.length] by simp)) (fun _ h=>h) fun _ h=>.inl h;have hl:=Zg D.l;exact⟨_,F,Z.stp k fun a V e=>by have:=hS a V;have:=zB.1 e;omega,k.get D.o (by simp;omega),k.get D.f (by simp;omega),k.get D.l (by simp;omega),D.lo⟩
 rcases r4 with ⟨y,M,q2,U⟩|⟨M,T⟩|⟨M,U,X⟩
 ·obtain⟨u,I,K⟩:=z (ZyI L p mem w l);exact⟨j,u,y,_,0,s',N,M,I,K,.inl ⟨rfl,q2,U⟩⟩
 ·obtain⟨u,I,K⟩:=z ⟨0,0,0,0⟩;exact⟨j,u,.nils,⟨0,0,0,0⟩,19,s',N,M,I,K,.inr (.inl ⟨rfl,rfl,T⟩)⟩
 ·obtain⟨u,I,K⟩:=z ⟨0,0,0,0⟩;exact⟨j,u,.nils,⟨0,0,0,0⟩,12,s',N,M,I,K,.inr (.inr ⟨rfl,rfl,U,X⟩)⟩
theorem Lft.fail {B:List Fil}(h:Lft B 262144 s){n:Nat}(j:n<=1000000):Lft B 262144 { s with count:=n } :=
 ⟨h.sto.alt rfl h.sto.limit h.sto.used h.sto.peak j,h.lm,h.crashed,⟨by omega,j,.inr rfl⟩,h.files⟩
end
theorem Zth {c0 c1 c2:List AV}{H1:Hp}(V:H1[0]?=some (.cells c0))(W:H1[1]?=some (.cells c1))(N:H1[2]?=some (.cells c2)) :
 ∃ h j u y S,ND [J yL 262144] H1=some (.ptr (H1.length+1) 0,h)/\Wx [.ptr (H1.length+1) 0,.str [100,97,116,97]] h=some (J yL 0,j) /\
  Ww [.ptr (H1.length+1) 0,.str [100,97,116,97],.str [107,101,112,116]] j=some (J yL 0,u)/\Vy [.ptr (H1.length+1) 0,.str [100,97,116,97]] u=some (J yL 0,y) /\
  TEnv c0 c1 c2 y (H1.length+1) ⟨262144,4,[Vm 4],false,0⟩ S:=by
 have hl:=Zg N;obtain⟨h,Z,E,F⟩:=Zx8 262144 (by omega) H1;have C:(min (max (262144:Int) 0) 262144).toNat=262144:=rfl;rw[C]at E;have Q:TEnv c0 c1 c2 h (H1.length+1) ⟨262144,0,[],false,0⟩ [H1.length+1,H1.length]:=⟨E,by rw[F];exact ZY V _,by rw[F];exact ZY W _,by rw[F];exact ZY N _,fun a X=>by simp at X;omega⟩;have k0:StoOk ⟨262144,0,[],false,0⟩:=(XS.start (B:=[]) (pk:=0) (by omega)).stoOk Zxs;obtain⟨j,A3,O,D⟩:=Zhh E k0 FN (by show 4<=_;omega);have R:(⟨262144,0,[],false,0⟩:Sto).create FN=(0,⟨262144,0,[⟨FN,[],0⟩],false,0⟩):=by kernel_rfl
 rw[R]at O D;have Y:StoOk ⟨262144,0,[⟨FN,[],0⟩],false,0⟩:=⟨by show 262144<=262144;omega,by show 0<=262144;omega,by show 0<=262144;omega,fun f A=>by rw[zB.1 A];kernel_rfl,by simp,fun f A=>by rw[zB.1 A];exact zL _,by simp,by simp⟩;obtain⟨u,A4,I,z⟩:=Zhf D.at' Y FN Zlw (by show 4<=_;omega);have T:(⟨262144,0,[⟨FN,[],0⟩],false,0⟩:Sto).append FN Zlw=(0,⟨262144,4,[Vm 0],false,0⟩):=by kernel_rfl
 rw[T]at I z;obtain⟨y,A5,K,M⟩:=ZlG z.at' (by show 0<=_;omega) FN;have U:(⟨262144,4,[Vm 0],false,0⟩:Sto).sync FN=(0,⟨262144,4,[Vm 4],false,0⟩):=by kernel_rfl
 rw[U]at K M;exact⟨h,j,u,y,A5,Z,O,I,K,((Q.res D).res z).res M⟩
theorem Ik {H:Hp}{D:List AV}{x:AV}(I:H[1]?=some (.cells D)){i j:Nat}{a:Int}(hi:i<3)(C:WO 3 2 (.ptr 1 0) (J yL (i:Int))=some (.ptr 1 j))(K:D[j]?=some (J yL a))(u:Hp) :
 YF x (.ptr 0 0) (.ptr 1 0) (J yL (i:Int)) u H=some (.bool true,H) \/
 (1<=a/\a<=200)/\YF x (.ptr 0 0) (.ptr 1 0) (J yL (i:Int)) u H=YF x (.ptr 0 0) (.ptr 1 0) (J yL ((i+1:Nat):Int)) u H:=by
 have h:decide ((i:Int)<3)=true:=by rw[decide_eq_true_eq];omega
 have z:Z6 0 (.ptr 1 j)=some (.ptr 1 j):=rfl;have y:=ZN I j K;have A:yK.wrap ((i:Int)+1)=((i+1:Nat):Int):=by rw[Zp (by omega) (by omega)];omega
 rw[J8]
 cases c1:decide (a<1) with
 |true=>left;simp only[go_sem,h,WK,C,z,y,c1,BH]
 |false =>
  cases c2:decide ((200:Int)<a) with
  |true=>left;simp only[go_sem,h,WK,C,z,y,c1,c2,BH]
  |false =>
   right;rw[decide_eq_false_iff_not]at c1 c2;have E:decide (a<1)=false:=by rw[decide_eq_false_iff_not];exact c1
   have F:decide ((200:Int)<a)=false:=by rw[decide_eq_false_iff_not];exact c2
   refine⟨by omega,?_⟩;simp only[go_sem,h,WK,C,z,y,E,F,P2,A]
section
variable {x:AV}{p:Spec}{xp:AV}{mem:Int}{w:Nat}{l:List Zl}{lx c e:AV}
theorem ZtX {U:List AV}{H:Hp}{t:Nat}{s:Sto}{S:List Nat}(E:TEnv (Kp p xp mem w) U (defL.cells lx c e) H t s S)(M:LocAV (.agg (defL.cells lx c e)) defL)(ad:Sl 5 xp (p.keys.map Ke.av))(hks:∀ k∈p.keys,KeOk k)(hkl:p.keys.length<=1048576)(hx:SS x l)(K:l.length<=40)(u:∀ s∈l,s.length<=200)
 (Z:MH p mem (w:Int) l=0) (hL:Lft [Vm 4] 262144 s) {i j:Nat} {n k:Nat} (hi:i<2) (I:WO 3 2 (.ptr 1 0) (J yL (i:Int))=some (.ptr 1 j)) (hj:U[j]?=some (J yL (n:Int))) (hn:n<=200) (aa:U[j+1]?=some (.int .u64 (k:Int))) (H0:Hp) :
 ∃ H' s' S',YE x (.ptr 0 0) (.ptr 1 0) (.ptr 2 0) (.ptr t 0) (J yL (i:Int)) H0 H=YE x (.ptr 0 0) (.ptr 1 0) (.ptr 2 0) (.ptr t 0) (J yL ((i+1:Nat):Int)) H0 H'/\TEnv (Kp p xp mem w) U (defL.cells lx c e) H' t s' S'/\Lft [Vm 4] 262144 s':=by
 have ab:SpecAV (.agg (p.cells xp)) p:=⟨xp,rfl,ad⟩;have C:BOk [Vm 4]:=Zaf (by omega);have N:decide ((i:Int)<2)=true:=by rw[decide_eq_true_eq];omega
 have D:Z6 0 (.ptr 1 j)=some (.ptr 1 j):=rfl;have F:Z6 1 (.ptr 1 j)=some (.ptr 1 (j+1)):=rfl;have O:yK.wrap ((i:Int)+1)=((i+1:Nat):Int):=by rw[Zp (by omega) (by omega)];omega
 have la:=ZN E.f j hj;obtain⟨H1,t1,t2⟩:=Zbw E.at' hL.crashed n (by omega);have Q:=E.res t2;have X:Lft [Vm 4] 262144 { s with count:=n }:=hL.fail (by omega);have a6:Z3 true 6 (.ptr 2 0) H1=some (.agg (defL.cells lx c e)):=by rw[Yv Q.l];rfl
 have sp:=Zb5 Q.o;have sz:=Zh2 Q.o;obtain⟨H2,H4,y,R,er,s',S',r1,r2,V,r4⟩:=Zk0 Q M Zlt ZwY ab hks hkl hx K u C (Zal 4) Z X
 have ac:StoOk s'/\s'.limit=min 262144 262144/\∃ T,s'.files=[Vm 4]++T/\∀ f∈T,∃ i,1<=i/\i<=128/\f.name=ZJ i:=by
  rcases r4 with ⟨_,_,hq⟩|⟨_,_,z⟩|⟨_,_,_,h⟩
  ·exact⟨hq.sto C,hq.lm,[],by rw[zG];exact hq.files,fun f hf=>by cases hf⟩
  ·exact⟨z.sto,z.lm,z.files⟩
  ·omega
 obtain⟨g1,g2,g3⟩:=ac;have lk:=ZN V.f (j+1) aa;obtain⟨Ha,Aa,a1,a2,a3⟩:=ZfO V.at' g1 k;have Y:Lft [Vm 4] 262144 (s'.restart k):=Zg2 Zme (by omega) a3 g2 g3;refine⟨Ha,_,Aa,?_,V.res a2,Y⟩;have ae:((0:Int) != 0)=false:=rfl;have W:((19:Int) != 0)=true:=rfl;have A:((19:Int) != 19)=false:=rfl;rw[J7];rcases r4 with ⟨rfl,_,_⟩|⟨rfl,_,_⟩|⟨_,_,_,h⟩
 ·simp only[go_sem,N,J4,I,D,la,t1,a6,Me,sp,ZdZ,sz,r1,zC,zD,r2,ae,J6,F,lk,a1,J5,O]
 ·simp only[go_sem,N,J4,I,D,la,t1,a6,Me,sp,ZdZ,sz,r1,zC,zD,r2,W,A,J6,F,lk,a1,J5,O]
 ·omega
theorem Zzl {cs:List AV}{H:Hp}{t:Nat}{s:Sto}{S:List Nat}(E:TEnv (Kp p xp mem w) cs (defL.cells lx c e) H t s S)(z:LocAV (.agg (defL.cells lx c e)) defL)(al:Sl 5 xp (p.keys.map Ke.av))(hks:∀ k∈p.keys,KeOk k)(hkl:p.keys.length<=1048576)(hx:SS x l)(af:We l)(hl:l.length<=1048576)(N:l.length<=40)(C:∀ s∈l,s.length<=200)
 (ah:MH p mem (w:Int) l=0) (hL:Lft [Vm 4] 262144 s) {n k:Nat} (hj:cs[4]?=some (J yL (n:Int))) (hn:n<=200) (aj:cs[5]?=some (.int .u64 (k:Int))) (H0:Hp) :
 ∃ H',YE x (.ptr 0 0) (.ptr 1 0) (.ptr 2 0) (.ptr t 0) (J yL 2) H0 H=some (.bool true,H'):=by
 have Q:SpecAV (.agg (p.cells xp)) p:=⟨xp,rfl,al⟩;have u:BOk [Vm 4]:=Zaf (by omega);have O:decide ((2:Int)<2)=false:=rfl;have A:WO 3 2 (.ptr 1 0) (J yL 2)=some (.ptr 1 4):=rfl;have M:Z6 0 (.ptr 1 4)=some (.ptr 1 4):=rfl;have ai:Z6 1 (.ptr 1 4)=some (.ptr 1 5):=rfl;have la:=ZN E.f 4 hj;obtain⟨H1,t1,t2⟩:=Zbw E.at' hL.crashed n (by omega);have E1:=E.res t2;obtain⟨H2,Y,S2,c1,c2⟩:=Zdr (Zal 4) (hL.fail (n:=n) (by omega)) E1.at';have Z:=E1.res c1
 have ak:StoOk Y/\Y.limit=min 262144 262144/\∃ T,Y.files=[Vm 4]++T/\∀ f∈T,∃ i,1<=i/\i<=128/\f.name=ZJ i:=by
  rcases c2 with ⟨_,hq⟩|⟨_,j⟩
  ·exact⟨hq.sto u,hq.lm,[],by rw[zG];exact hq.files,fun f hf=>by cases hf⟩
  ·exact⟨j.sto,j.lm,j.files⟩
 obtain⟨g1,g2,g3⟩:=ak;have lk:=ZN Z.f 5 aj;obtain⟨H3,S3,a1,a2,a3⟩:=ZfO Z.at' g1 k;have E3:=Z.res a2;have ae:Lft [Vm 4] 262145 (Y.restart k):=Zg2 Zme (by omega) a3 g2 g3;obtain⟨H4,s4,S4,d1,d2⟩:=Zdr (Zal 4) ae E3.at';have E4:=E3.res d1;rcases d2 with ⟨d2,W⟩|⟨_,j⟩
 rotate_left
 ·exact (Zx2 j).elim
 obtain⟨H5,X,m2⟩:=Zgv E4.at' (W.sto u) FN 0 10 (by omega);have er:s4.read FN 0 10=(Zlw,0):=by rw[W.eq];rfl
 have et:s4.tick=s4:=by rw[W.eq];rfl
 rw[er]at X;rw[et]at m2;replace X:Vx [.ptr t 0,.str [100,97,116,97],J yL 0,J yL 10] H4=some (.tuple [.str [107,101,112,116],J yL 0],H5):=X;have V:=E4.res m2;have a6:Z3 true 6 (.ptr 2 0) H5=some (.agg (defL.cells lx c e)):=by rw[Yv V.l];rfl
 have sp:=Zb5 V.o;have sz:=Zh2 V.o;obtain⟨H6,F,y,R,e7,s7,S7,r1,r2,E7,r4⟩:=Zk0 V z Zlt ZwY Q hks hkl hx N C u (Zal 4) ah (W.lft u);rcases r4 with ⟨rfl,r4,ag⟩|⟨_,_,j⟩|⟨_,_,_,h⟩
 rotate_left
 ·exact (Zx2 j).elim
 ·omega
 have b6:Z3 true 6 (.ptr 2 0) F=some (.agg (defL.cells lx c e)):=by rw[Yv E7.l];rfl
 have am:=Zb5 E7.o;obtain⟨yw,w1,w2⟩:=ZeA z Zlt Q hks hx af hl F;have D:=Zg4 r4 w2 (yA (Zez defL p l) hl) F;obtain⟨xl,n1,n2⟩:=Ztf E7.c ag;have U:((0:Int) != 0)=false:=rfl;have aa:((0:Int)==0)=true:=rfl;have ab:((1:Int)==1)=true:=rfl;have ad:((([107,101,112,116]:List UInt8))==[107,101,112,116])=true:=rfl;have ac:((19:Int) != 0)=true:=rfl;have I:((19:Int) != 19)=false:=rfl
 have K:U8 x (.ptr 0 0) (.ptr 1 0) (.ptr 2 0) (.ptr t 0) H0 H2=some (.bool true,F):=by
  rw[P7];simp only[go_sem,A,ai,lk,a1,d2,zC,zD,U,P8,X,a6,Me,sp,ZdZ,sz,r1,r2,aa,ad,b6,am,w1,D,n1,n2,ab,BH]
 refine⟨F,?_⟩;rw[J7];rcases c2 with ⟨c2,_⟩|⟨c2,_⟩
 ·simp only[go_sem,O,J3,A,M,la,t1,c2,zC,zD,U];exact K
 ·simp only[go_sem,O,J3,A,M,la,t1,c2,zC,zD,ac,I];exact K
end
theorem Zjm {x:AV}{p:Spec}{xp:AV}{mem w:Int}{l:List Zl}(C:Sl 5 xp (p.keys.map Ke.av))(hks:∀ k∈p.keys,KeOk k)(hkl:p.keys.length<=1048576)(Y:SS x l)(hL:We l)(hl:l.length<=1048576)(R T U:Int)(k0 k1 k2:Nat) :
 ∃ H',Gq [.agg (Kp p xp mem w),x,.agg [J yL R,.int .u64 (k0:Int),J yL T,.int .u64 (k1:Int),J yL U,.int .u64 (k2:Int)]] []=some (.bool true,H'):=by
 have ag:SpecAV (.agg (p.cells xp)) p:=⟨xp,rfl,C⟩;have b1:=Zwb (p:=p) (xp:=xp) (mem:=mem) (w:=w) [];generalize h:[yB .i64 R,.int .u64 (k0:Int),J yL T,.int .u64 (k1:Int),J yL U,.int .u64 (k2:Int)]=D;have b2:ZQ (.agg D) ([]++[zA (Kp p xp mem w)])=some (.ptr 1 0,[zA (Kp p xp mem w),.cells D]):=by rw[Yu];rfl
 have F:([zA (Kp p xp mem w),.cells D]:Hp)[0]?=some (.cells (Kp p xp mem w)):=rfl;have z:([zA (Kp p xp mem w),.cells D]:Hp)[1]?=some (.cells D):=rfl;have Z:Z3 false 1 (.ptr 0 0) [zA (Kp p xp mem w),.cells D]=some xp:=rfl;have M:=Zb5 F;have az:=Zh2 F;have I:=Sl.len C 119;rw[zM]at I;have el:([]:Hp).length=0:=rfl;rw[el]at b1;have K:([zA (Kp p xp mem w),.cells D]:Hp).length=2:=rfl;rw[PX];unfold Gs;simp only[b1,go_sem,b2];generalize [zA (Kp p xp mem w),.cells D]=H1 at Z M az F z K;obtain⟨b,f1,f2⟩:=ZsF Y hl hL H1;have f4:=ZtJ Y hL hl ag mem w H1
 cases b with
 |false=>exact⟨H1,by simp only[go_sem,f1,yE,BH]⟩
 |true =>
 obtain⟨A,u⟩:=f2 rfl
 cases hk:decide ((10:Int)<(p.keys.length:Int)) with
 |true=>exact⟨H1,by simp only[go_sem,f1,zO,Me,Z,I,hk,BH]⟩
 |false =>
 cases Q:MH p mem w l != 0 with
 |true=>exact⟨H1,by simp only[go_sem,f1,zO,Me,Z,I,hk,ZdZ,M,az,f4,Q,BH]⟩
 |false =>
 have y:MH p mem w l=0:=by simpa using Q
 obtain⟨_,ao,ap,aq,ar⟩:=Zp4 y;obtain⟨wn,rfl⟩:∃ wn:Nat,w=(wn:Int):=⟨w.toNat,by omega⟩;simp only[go_sem,f1,zO,Me,Z,I,hk,ZdZ,M,az,f4,Q,P4];have Mi:((0:Nat):Int)=0:=rfl;have ah:((1+1:Nat):Int)=2:=rfl;have ai:((2+1:Nat):Int)=3:=rfl;rcases Ik (x:=x) z (i:=0) (j:=0) (a:=R) (by omega) rfl (by rw[<-h];rfl) [] with q|⟨⟨u0,v0⟩,q0⟩
 ·exact⟨H1,q⟩
 rcases Ik (x:=x) z (i:=1) (j:=2) (a:=T) (by omega) rfl (by rw[<-h];rfl) [] with q|⟨⟨u1,v1⟩,q1⟩
 ·exact⟨H1,q0.trans q⟩
 rcases Ik (x:=x) z (i:=2) (j:=4) (a:=U) (by omega) rfl (by rw[<-h];rfl) [] with q|⟨⟨u2,v2⟩,q2⟩
 ·exact⟨H1,q0.trans (q1.trans q)⟩
 have q:=q0.trans (q1.trans q2);rw[Mi,ai]at q;rw[q];have ab:decide ((3:Int)<3)=false:=rfl;obtain⟨n0,rfl⟩:∃ n:Nat,R=(n:Int):=⟨R.toNat,by omega⟩;obtain⟨n1,rfl⟩:∃ n:Nat,T=(n:Int):=⟨T.toNat,by omega⟩;obtain⟨n2,rfl⟩:∃ n:Nat,U=(n:Int):=⟨U.toNat,by omega⟩
 -- the locale
 obtain⟨ad,g1,g2⟩:=L2 H1;have O:=g2;obtain⟨lx,c,e,rfl,an,al,am⟩:=g2;have p5:(H1++[zA [.str [],.nils,.str [],.str [],.nils,.nils]])[2]?=some (.cells [.str [],.nils,.str [],.str [],.nils,.nils]):=by rw[<-K];simp
 have s5:=WT (off:=0) (sz:=6) (v:=.agg (defL.cells lx c e)) p5 rfl rfl (by simp);have N:=Zq (zA (splice [yJ [],.nils,.str [],.str [],.nils,.nils] 0 (yG (defL.cells lx c e)).cells)) p5;have aa:splice [yJ [],.nils,.str [],.str [],.nils,.nils] 0 (yG (defL.cells lx c e)).cells=defL.cells lx c e:=rfl;rw[aa]at N s5
 have V:((H1++[zA [.str [],.nils,.str [],.str [],.nils,.nils]]).set 2 (.cells (defL.cells lx c e)))[0]?=some (.cells (Kp p xp mem (wn:Int))):=by
  rw[zY (by omega),zT (by omega)];exact F
 have W:((H1++[zA [.str [],.nils,.str [],.str [],.nils,.nils]]).set 2 (.cells (defL.cells lx c e)))[1]?=some (.cells D):=by
  rw[zY (by omega),zT (by omega)];exact z
 have X:((H1++[zA [.str [],.nils,.str [],.str [],.nils,.nils]]).set 2 (.cells (defL.cells lx c e))).length=3:=by simp[K]
 rw[J8];simp only[go_sem,ab,P5,g1,K,s5];generalize ((H1++[zA [.str [],.nils,.str [],.str [],.nils,.nils]]).set 2 (.cells (defL.cells lx c e)))=H2 at N W V X;obtain⟨Hb,Hc,Hd,He,Se,s1,s2,s3,s4,E⟩:=Zth V W N;rw[X]at s1 s2 s3 s4 E;have aj:((0:Int) != 0)=false:=rfl;simp only[s1,go_sem,s2,aj,s3,s4,P6];have ac:BOk [Vm 4]:=Zaf (by omega);have hQ:Qt [Vm 4] 262144 ⟨262144,4,[Vm 4],false,0⟩:=⟨rfl,by show 4<=262144;omega,rfl,rfl,⟨by omega,by show 0<=_;omega,.inr rfl⟩,by show 4+0<=262144;omega⟩;obtain⟨Hf,sf,Sf,i1,Ef,ae⟩:=ZtX (i:=0) (j:=0) (n:=n0) (k:=k0) E O C hks hkl Y A u y (hQ.lft ac) (by omega) rfl (by rw[<-h];rfl) (by omega) (by rw[<-h];rfl) [];obtain⟨Hg,sg,Sg,j1,Eg,af⟩:=ZtX (i:=1) (j:=2) (n:=n1) (k:=k1) Ef O C hks hkl Y A u y ae (by omega) rfl (by rw[<-h];rfl) (by omega) (by rw[<-h];rfl) [];obtain⟨Hh,h1⟩:=Zzl (n:=n2) (k:=k2) Eg O C hks hkl Y hL hl A u y af (by rw[<-h];rfl) (by omega) (by rw[<-h];rfl) [];rw[Mi]at i1;rw[ah]at j1;exact⟨Hh,i1.trans (j1.trans h1)⟩
end Go.Am
