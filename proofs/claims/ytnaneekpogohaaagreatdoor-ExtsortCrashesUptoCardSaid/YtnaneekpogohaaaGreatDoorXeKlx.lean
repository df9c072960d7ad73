/- The end of a sort in a store that may crash -/
import Derived.Test.YtnaneekpogohaaaGreatDoorXeOex
import Derived.Test.YtnaneekpogohaaaGreatDoorXeCox
import Derived.Test.YtnaneekpogohaaaGreatDoorXeLax
open Go.Am.AV renaming int->J
open Go.IntKind renaming i64->zT
open List renaming mem_singleton->zB,getElem?_cons_zero->zC,getElem?_cons_succ->zD,mem_cons->zE,mem_append_right->zF,mem_append->zG,mem_map_of_mem->zH,not_mem_nil->zI,nodup_cons->zK,append_nil->zL,set->zM,mem_filter->zN,map_append->zO,nodup_nil->zP,mapM_cons->zQ
open Nat renaming zero_add->zJ,le_refl->zS
open Bool renaming not_true->zR
open Go.Am.AObj renaming cells->zA
namespace Go.Am
set_option linter.unusedSectionVars false
set_option maxRecDepth 100000
structure Qt (B:List Fil)(lim:Nat)(s:Sto):Prop where
  lm:s.limit=min lim 262144
  pk:s.peak<=min lim 262144
  files:s.files=B
  crashed:s.crashed=false
  cn:Cn lim s.count
  room:Zr B<=min lim 262144
structure Lost (B:List Fil)(lim:Nat)(s:Sto):Prop where
  sto:StoOk s
  lm:s.limit=min lim 262144
  big:lim=262144
  dead:s.crashed=true
  files:∃ T,s.files=B++T/\∀ f∈T,∃ i,1<=i/\i<=128/\f.name=ZK i
abbrev zst:AV:=.agg [J zT 0,J zT 0,J zT 0,J zT 0]
section
variable {o t:Nat}{B:List Fil}(hB:BOk B){lim:Nat}
include hB
theorem ZgH {tm:Tmp}{s:Sto}{er:Int}{A:List Nat}{H:Hp}{sc ec mc cc:Nat}(hb:Bad B lim tm s er)(hsys:SysAt H o t tm s A)(hF:FxB H sc ec mc cc o er false)(hd:∀ x∈[sc,ec],x∉A)(H0:Hp) :
    ∃ H' s' S1,XM .nils (.ptr sc 0) (.ptr ec 0) (.fn (.func 44) [] [.ptr ec 0,.ptr cc 0,.ptr mc 0]) H0 H=some (.tuple [.nils,zst,J zT er],H')/\StoreAt H' t s' S1/\Stp A H H'/\(∀ x∈S1,x∈A\/H.length<=x) /\
      (er=19/\Lost B lim s'\/er=12/\Qt B lim s'/\lim<262144):=by
  have hnB:∀ n∈tm.names,n∉B.map Fil.name:=fun n hn=>by
    obtain⟨i,_,_,e⟩:=hb.num n hn;rw[e];exact XS.notB hB i
  obtain⟨H1,A1,tm1,s1,e1,c1,c2,c3,c4,c5,c6,c7⟩:=Zhd hsys hb.ok hb.sto hb.nd hnB hb.files hb.cl;have hs1:=c2.stp.get hF.s (hd sc (by simp));have he1:=c2.stp.get hF.e (hd ec (by simp));have le:=ZQ hF.e 0 (v:=J zT er) rfl;have lc:=ZQ hF.c 0 (v:=.bool false) rfl;have lm:=ZQ hF.m 0 (v:=.ptr o 0) rfl;have hne:=hb.ne
  have hcall:Yf cfg (Zb cfg) (.fn (.func 44) [] [.ptr ec 0,.ptr cc 0,.ptr mc 0]) [] H=some (.tuple [],H1):=by
    rw[Zgu,KT];unfold JH;simp only[go_sem,le,hne,lc,Bool.not_false,lm,c1]
  have l4:Z3 true 4 (.ptr sc 0) H1=some zst:=by rw[YB hs1];rfl
  have l1:=ZQ he1 0 (v:=J zT er) rfl;obtain⟨Bs,Ss,z1,z2,z3,z4⟩:=c2.at';refine⟨H1,s1,Ss,?_,z2,c2.stp,fun x hx=>c2.own x (by rw[z4];exact zF _ hx),?_⟩
  · rw[GG]
    simp only[hcall,go_sem,l4,l1]
  · obtain⟨T,f1,f2⟩:=c5
    have hlm:=c4.trans hb.lm;rcases hb.err with ⟨rfl,d1,d2⟩|⟨rfl,d1,d2,d3⟩
    · refine .inl ⟨rfl,c3,hlm,d2,?_,T,f1,fun f hf=>hb.num _ (f2 f hf)⟩
      rcases c7 with ⟨_,_,h⟩|⟨_,h,_⟩
      · rw[h];exact d1
      · exact h
    · rcases c7 with ⟨_,h1,h2⟩|⟨_,_,h⟩
      · have hu:=c3.used
        have hp:=c3.peak;have hl:=c3.limit;rw[h1]at hu;exact .inr ⟨rfl,⟨hlm,by omega,h1,by rw[h2];exact d1,⟨by omega,by omega,.inl (by omega)⟩,by omega⟩,d3⟩
      · rcases h with h|h
        · rw[d1]at h;cases h
        · omega
variable {g:Nat}{L:Loc}{lx cl e:AV}{p:Spec}{xp:AV}(hl:LocAV (.agg (L.cells lx cl e)) L)(hok:LocOk L)(hsm:LocSm L)(hs:SpecAV (.agg (p.cells xp)) p)(hks:∀ k∈p.keys,KeOk k)(hkl:p.keys.length<=1048576)
include hl hok hsm hs hks hkl
theorem Zuu {w:Nat}{zc sc ec mc cc:Nat}{mem:Int}{r0 y0:Int}{l:List Zl}(hnd:[zc,sc,ec,mc,cc].Nodup)(H0:Hp){a:PSt}{tm:Tmp}{s:Sto}{A S:List Nat}{H:Hp}(hI:SInv L p r0 y0 l a)
    (hX:XG B lim tm s a.P a.k) (hsys:SysAt H o t tm s A) (hS:SrAt H g o A L lx cl e p xp a.O a.st S) (hF:FxAt H zc sc ec mc cc o mem (w:Int) false) (hd:∀ x∈[zc,sc,ec,mc,cc],x∉S/\x∉A) :
    ∃ H' s' S1,StoreAt H' t s' S1/\Stp (sc::ec::cc::A) H H'/\(∀ x∈S1,x∈A\/H.length<=x) /\
      ((∃ y,Ql (.ptr sc 0) (.ptr ec 0) (.ptr mc 0) (.ptr cc 0) (.ptr g 0) (.fn (.func 44) [] [.ptr ec 0,.ptr cc 0,.ptr mc 0]) H0 H=some (.tuple [y,Tx a.st,J zT 0],H')/\SS y (ZP L p l)/\Qt B lim s') \/
       Ql (.ptr sc 0) (.ptr ec 0) (.ptr mc 0) (.ptr cc 0) (.ptr g 0) (.fn (.func 44) [] [.ptr ec 0,.ptr cc 0,.ptr mc 0]) H0 H=some (.tuple [.nils,zst,J zT 19],H')/\Lost B lim s'):=by
  have hFl:=hF.lt;have hSo:=hS.off;have e0:((0:Int) != 0)=false:=rfl;have e19:((19:Int) != 0)=true:=rfl;have hn5:=hnd;simp only[zK,zE,zI,or_false,not_or,zP,not_false_eq_true,and_true]at hn5;obtain⟨⟨n1,n2,n3,n4⟩,⟨n5,n6,n7⟩,⟨n8,n9⟩,n10⟩:=hn5;obtain⟨H1,s1,hT,q3,q4,qq⟩:=Zr5 hB hl hok hsm hs hks hkl (by have:=hI.len;omega) hI.lines (fun x hx=>hI.perm.mem_iff.2 hx) hX hsys hS;have hF1:=hF.stp q4 fun x hx h=>(hd x hx).2 h;have hS1:=hS.stp q4 hSo fun x h=>.inl h;have hl01:=q4.len;have b1:Stp (sc::ec::cc::A) H H1:=q4.mono fun x hx=>by simp[hx]
  rcases qq with ⟨cr1,y,q1,q2⟩|⟨cr1,q1⟩
  rotate_left
  · obtain⟨f1,f2,f3,f4,f5,f6,f7⟩:=ZmE hF1.s hF1.e (Ne.symm n5) 19
    have t2:Stp [ec] H1 (H1.set ec (.cells [J zT 19])):=Stp.set _ _ (by simp);have hm2:=t2.get hF1.m (by simpa using Ne.symm n8);have hc2:=t2.get hF1.c (by simpa using Ne.symm n9);have hsys2:=q3.stp t2 fun x hx h=>(hd ec (by simp)).2 (by rw[<-zB.1 h];exact hx);obtain⟨H2,s2,S2,r1,r2,r3,r4,r5⟩:=ZgH hB (hX.bad hB hT cr1) hsys2 ⟨f6,f7,hm2,hc2⟩ (fun x hx=>(hd x (by simp at hx ⊢;rcases hx with h|h <;> simp[h])).2) H0
    have t2l:=t2.len;refine⟨H2,s2,S2,r2,(b1.trans t2 (fun _ h=>h) fun x h=>.inl (by rw[zB.1 h];simp)).trans r3 (fun _ h=>h) fun x h=>.inl (by simp[h]),fun x hx=>(r4 x hx).imp id fun h=>by omega,.inr ⟨?_,?_⟩⟩
    · rw[GH]
      simp only[q1,go_sem,zC,zD,f1,f2,e19,f3,f4,f5];exact r1
    · rcases r5 with ⟨_,h⟩|⟨h,_⟩
      · exact h
      · cases h
  obtain⟨Ps,c1,c2⟩:=hI.parts;rw[c1,Zeh,c2]at q2;have hX1:=hX.tk hT cr1
  -- closed is true
  have s15:=V2 hF1.c 0 (v:=.bool true) rfl rfl (by simp);have esc:(zM [AV.bool false] 0 (.bool true))=[.bool true]:=rfl;rw[esc]at s15;have t2:Stp [cc] H1 (H1.set cc (.cells [.bool true])):=Stp.set _ _ (by simp);have hc2:=Zq (zA [.bool true]) hF1.c
  have hF2:FxAt (H1.set cc (.cells [.bool true])) zc sc ec mc cc o mem (w:Int) true :=
    ⟨t2.get hF1.z (by simpa using n4),t2.get hF1.s (by simpa using n7),t2.get hF1.e (by simpa using n9),t2.get hF1.m (by simpa using n10),hc2⟩
  have hcS:=hd cc (by simp);have hsys2:=q3.stp t2 fun x hx h=>hcS.2 (by rw[<-zB.1 h];exact hx);have hS2:=hS1.stp (A':=A) t2 (fun x hx h=>hcS.1 (by rw[<-zB.1 h];exact hx)) fun x h=>.inl h;have t2l:=t2.len;generalize hH2:H1.set cc (.cells [.bool true])=H2 at s15 t2 hF2 hsys2 hS2 t2l
  -- Close
  have hnB:∀ n∈tm.names,n∉B.map Fil.name:=fun n hn=>by
    obtain⟨i,_,_,e⟩:=hX1.names n hn;rw[e];exact XS.notB hB i
  obtain⟨H3,A3,tm3,s3,er,k1,k2,k3,k4,k5,k6,k7⟩:=Zhd (B:=B) hsys2 hX1.x.tmOk (hX1.sto hB) (by rw[hX1.x.tmE.2.1];exact hX1.x.nd) hnB ⟨YG a.P,hX1.files,fun f hf=>by rw[hX1.x.tmE.2.1,<-JV];exact zH hf⟩ hX1.x.tmE.2.2.2.2;have hF3:=hF2.stp k2.stp fun x hx h=>(hd x hx).2 h;have hS3:=hS2.stp k2.stp hS2.off k2.own;have hl23:=k2.stp.len;have le2:=ZQ hF1.e 0 (v:=J zT 0) rfl;have lm:=ZQ hF2.m 0 (v:=.ptr o 0) rfl;have b2:Stp (sc::ec::cc::A) H H2:=b1.trans t2 (fun _ h=>h) fun x h=>.inl (by rw[zB.1 h];simp);have b3:Stp (sc::ec::cc::A) H H3:=b2.trans k2.stp (fun _ h=>h) fun x h=>.inl (by simp[h]);have hA3o:∀ x∈A3,x∈A\/H.length<=x:=fun x hx=>(k2.own x hx).imp id fun h=>by omega
  have hd3:∀ x∈[zc,sc,ec,mc,cc],x∉A3:=fun x hx h=>by
    have:=hFl x hx;rcases hA3o x h with h|h
    · exact (hd x hx).2 h
    · omega
  rcases k7 with ⟨rfl,k7,k8⟩|⟨rfl,k7,k8⟩
  rotate_left
  · obtain⟨f1,f2,f3,f4,f5,f6,f7⟩:=ZmE hF3.s hF3.e (Ne.symm n5) 19
    have t4:Stp [ec] H3 (H3.set ec (.cells [J zT 19])):=Stp.set _ _ (by simp);have hc4:=t4.get hF3.c (by simpa using Ne.symm n9);have hsys4:=k2.at'.stp t4 fun x hx h=>hd3 ec (by simp) (by rw[<-zB.1 h];exact hx);generalize H3.set ec (.cells [J zT 19])=H4 at f1 f2 f4 f5 f6 f7 t4 hc4 hsys4;have lc:=ZQ hc4 0 (v:=.bool true) rfl
    have hcall:Yf cfg (Zb cfg) (.fn (.func 44) [] [.ptr ec 0,.ptr cc 0,.ptr mc 0]) [] H4=some (.tuple [],H4):=by
      rw[Zgu,KT];unfold JH;simp only[go_sem,f2,e19,lc,zR]
    have l4:Z3 true 4 (.ptr sc 0) H4=some zst:=by rw[YB f6];rfl
    obtain⟨Bs,Ss,z1,z2,z3,z4⟩:=hsys4;refine⟨H4,s3,Ss,z2,b3.trans t4 (fun _ h=>h) fun x h=>.inl (by rw[zB.1 h];simp),fun x hx=>hA3o x (by rw[z4];exact zF _ hx),.inr ⟨?_,k3,k4.trans hX1.lm,?_,k7,?_⟩⟩
    · rw[GH]
      simp only[q1,go_sem,zC,zD,hF1.e0,le2,e0,NC,s15,lm,k1,f1,f2,e19,f3,f4,f5,GG,hcall,l4]
    · rcases k8 with h|h
      · rw[cr1]at h;cases h
      · rcases hX1.cn.2.2 with h2|h2
        · omega
        · exact h2
    · obtain⟨T,g1,g2⟩:=k5
      exact⟨T,g1,fun f hf=>hX1.names _ (g2 f hf)⟩
  obtain⟨x,g1,g2,g3,g4,g5⟩:=hS3;have l13:Z3 true 4 (.ptr g 13) H3=some (Tx a.st):=by rw[YB g1];rfl
  have s11:=WN (off:=0) (sz:=4) (v:=Tx a.st) hF3.s rfl rfl (by simp);have esp:splice [AV.int .i64 0,J zT 0,J zT 0,J zT 0] 0 (Tx a.st).cells=[J zT a.st.r,J zT a.st.m,J zT a.st.y,J zT a.st.k]:=rfl;rw[esp]at s11;have t4:Stp [sc] H3 (H3.set sc (.cells [J zT a.st.r,J zT a.st.m,J zT a.st.y,J zT a.st.k])):=Stp.set _ _ (by simp);have hsc4:=Zq (zA [J zT a.st.r,J zT a.st.m,J zT a.st.y,J zT a.st.k]) hF3.s;have hec4:=t4.get hF3.e (by simpa using Ne.symm n5);have hsys4:=k2.at'.stp t4 fun x hx h=>hd3 sc (by simp) (by rw[<-zB.1 h];exact hx);generalize hH4:H3.set sc (.cells [J zT a.st.r,J zT a.st.m,J zT a.st.y,J zT a.st.k])=H4 at s11 t4 hsc4 hec4 hsys4
  have se4:Za 1 (.ptr ec 0) (J zT 0) H4=some (.tuple [],H4):=by
    have:=V2 hec4 0 (v:=J zT 0) rfl rfl (by simp);rw[this];congr 2;exact SN hec4
  have le4:=ZQ hec4 0 (v:=J zT 0) rfl;have lst:Z3 true 4 (.ptr sc 0) H4=some (Tx a.st):=by rw[YB hsc4];rfl
  have hcall:Yf cfg (Zb cfg) (.fn (.func 44) [] [.ptr ec 0,.ptr cc 0,.ptr mc 0]) [] H4=some (.tuple [],H4):=by
    rw[Zgu,KT];unfold JH;simp only[go_sem,le4,e0]
  have le3:=ZQ hF3.e 0 (v:=J zT 0) rfl;have hu:=k3.used;have hp:=k3.peak;have hlm:=k4.trans hX1.lm;rw[k7]at hu;obtain⟨Bs,Ss,z1,z2,z3,z4⟩:=hsys4;refine⟨H4,s3,Ss,z2,b3.trans t4 (fun _ h=>h) fun x h=>.inl (by rw[zB.1 h];simp),fun x hx=>hA3o x (by rw[z4];exact zF _ hx),.inl ⟨y,?_,q2,hlm,by omega,k7,k8.trans cr1,hX1.cn.less k6,by omega⟩⟩;rw[GH];simp only[q1,go_sem,zC,zD,hF1.e0,le2,e0,NC,s15,lm,k1,hF3.e0,le3,ZdK,zJ,l13,s11,se4,GG,hcall,lst,le4]
end
structure Lft (B:List Fil)(lim:Nat)(s:Sto):Prop where
 sto:StoOk s
 lm:s.limit=min lim 262144
 crashed:s.crashed=false
 cn:Cn lim s.count
 files:∃ T,s.files=B++T/\∀ f∈T,∃ i,1<=i/\i<=128/\f.name=ZK i
theorem Qt.sto {B:List Fil}{lim:Nat}{s:Sto}(hB:BOk B)(h:Qt B lim s):StoOk s:=by
 refine (Zk2 hB (fs:=[]) (s:=⟨262144,0,B,false,0⟩) (by simp) (fun f j=>by cases j) (fun f j=>by cases j) (by simp) (by have:=hB.used;simp[Zr];omega) rfl (by show 0<=262144;omega) (by simp) rfl).alt h.files (by rw[h.lm];omega) ?_ (by rw[h.lm];exact h.pk) h.cn.2.1;rw[h.lm];exact h.room
theorem Qt.lft {B:List Fil}{lim:Nat}{s:Sto}(hB:BOk B)(h:Qt B lim s):Lft B lim s :=
 ⟨h.sto hB,h.lm,h.crashed,h.cn,[],by rw[zL];exact h.files,fun f j=>by cases j⟩
theorem Zx1:((List.range 128).all fun i=>Q3 XK (ZK (i+1)))=true:=by kernel_rfl
theorem ZA9 {i:Nat}(h:1<=i)(j:i<=128):Q3 XK (ZK i)=true:=by
 have:=WM Zx1 (i:=i-1) (by omega)
 rwa [show i-1+1=i by omega]at this
theorem I4:QE XK=true:=by kernel_rfl
theorem ZfY (l:List Fil):(U6 l).map Fil.name=VK (l.map Fil.name):=by
 have:∀ L:List Zm,(∀ n∈L,n∈l.map Fil.name)->(L.filterMap (ZR l)).map Fil.name=L:=by
  intro L
  induction L with
  |nil=>intro _;rfl
  |cons n L w =>
   intro h;obtain⟨f,u⟩:=Sw (h n (by simp));obtain⟨_,_,_,j,_⟩:=Tc u;rw[List.filterMap_cons,u];show f.name::_=_;rw[j,w fun m hm=>h m (by simp[hm])]
 exact this _ fun n j=>(Rb _ _).1 j
theorem Lft.left {B:List Fil}{lim:Nat}{s:Sto}(h:Lft B lim s)(u:∀ f∈B,Q3 XK f.name=false):(XP XK s).Nodup/\(∀ n∈XP XK s,n∉B.map Fil.name/\ZR s.files n≠none)/\OJ B s (XP XK s):=by
 have e:XP XK s=(VK (s.files.map Fil.name)).filter (Q3 XK):=by
  unfold XP UN;rw[if_pos I4,ZfY]
 obtain⟨T,z,D⟩:=h.files;rw[e];refine⟨((Qz _).nodup_iff.2 h.sto.nd).filter _,fun n I=>?_,T,z,fun f j=>?_⟩
 ·obtain⟨E,A⟩:=zN.1 I;have F:=(Rb _ _).1 E;obtain⟨f,j⟩:=Sw F;refine⟨fun H=>?_,by rw[j];simp⟩;obtain⟨b,w,y⟩:=List.mem_map.1 H;rw[<-y,u b w]at A;cases A
 ·obtain⟨i,K,M,C⟩:=D f j;refine zN.2 ⟨(Rb _ _).2 ?_,by rw[C];exact ZA9 K M⟩;rw[z,zO];exact zF _ (zH j)
theorem Znm {s:Sto}{n:Zm}(j:ZR s.files n≠none):(s.remove n).1≠5:=by
 unfold Sto.remove;split
 ·simp
 ·split
  ·rename_i h;exact absurd h j
  ·simp
theorem Zg2 {B:List Fil}:∀ (l:List Zm) (s:Sto),StoOk s->s.crashed=false->l.Nodup->(∀ n∈l,n∉B.map Fil.name/\ZR s.files n≠none)->OJ B s l ->
 StoOk (Y7 l s).2/\(Y7 l s).2.limit=s.limit/\(Y7 l s).2.count<=s.count /\
  ((Y7 l s).1=0/\(Y7 l s).2.crashed=false/\(Y7 l s).2.files=B\/(Y7 l s).1=19/\(Y7 l s).2.crashed=true/\0<s.count/\OJ B (Y7 l s).2 l):=by
 intro l
 induction l with
 |nil =>
  intro s hk E _ _ j;refine⟨hk,rfl,zS _,.inl ⟨rfl,E,?_⟩⟩;obtain⟨T,e,D⟩:=j
  cases T with
  |nil=>show s.files=B;rw[e,zL]
  |cons f T=>have:=D f (by simp);cases this
 |cons n l ih =>
  intro s hk E u I j;obtain⟨K,M⟩:=I n (by simp);rw[zK]at u;have h5:=Znm M;have z:=ZiQ hk n;obtain⟨Q,R,h3⟩:=Zg4 s n;rcases h3 with ⟨A,O,a3,a4⟩|⟨A,O,a3,a4⟩
  ·have w:Y7 (n::l) s=s.remove n:=by rw[Y7,if_pos (by rw[A];decide)]
   rw[w];refine⟨z,Q,R,.inr ⟨A,O,?_,j.choose,by rw[a4];exact j.choose_spec.1,j.choose_spec.2⟩⟩;rcases a3 with h|h
   ·rw[E]at h;cases h
   ·exact h
  ·have Z:(s.remove n).1=0:=A.resolve_right h5;have w:Y7 (n::l) s=Y7 l (s.remove n).2:=by rw[Y7,if_neg (by simp[Z])]
   rw[w]
   have N:OJ B (s.remove n).2 l:=by
    obtain⟨T,e,D⟩:=j;refine⟨VI T n,by rw[a4,e,ZaM K],fun f F=>?_⟩
    have y:(T.map Fil.name).Nodup:=by
     have:=hk.nd;rw[e,zO]at this;exact (List.nodup_append.1 this).2.1
    obtain⟨q1,q2⟩:=Zue y F;rcases zE.1 (D f q1) with h|h
    ·exact absurd h q2
    ·exact h
   obtain⟨V,W,X,Y⟩:=ih (s.remove n).2 z a3 u.2 (fun m hm=>⟨(I m (by simp[hm])).1,by
    have H:m≠n:=fun e=>by rw[e]at hm;exact u.1 hm
    rw[a4,Zzn H];exact (I m (by simp[hm])).2⟩) N
   refine⟨V,W.trans Q,Nat.le_trans X R,Y.imp id fun⟨S,U,b3,C⟩=>⟨S,U,by omega,C.choose,C.choose_spec.1,fun f j=>List.mem_cons_of_mem _ (C.choose_spec.2 f j)⟩⟩
theorem Zs4 {B:List Fil}(hB:BOk B)(I:∀ f∈B,Q3 XK f.name=false){lim:Nat}{s:Sto}(u:Lft B lim s){H:Hp}{t:Nat}{S:List Nat}(h:StoreAt H t s S) :
 ∃ H' s',(∃ o A',Ws [.ptr t 0,.str XK,J zT 262144] H=some (.tuple [.ptr o 0,J zT 0],H')/\SysAt H' o t ⟨XK,[],[],262144,0,false⟩ s' A'/\Stp S H H'/\(∀ a∈A',a∈S\/H.length<=a)/\Qt B lim s') \/
  ∃ C,Ws [.ptr t 0,.str XK,J zT 262144] H=some (.tuple [.nilp,J zT 19],H')/\StoreAt H' t s' C/\Stp S H H'/\(∀ a∈C,a∈S\/H.length<=a)/\Lost B lim s':=by
 have Y:ROk s:=⟨u.sto,fun h=>by rw[u.crashed]at h;cases h⟩;obtain⟨l1,K,l3⟩:=u.left I;obtain⟨F,W,X,M⟩:=Zg2 (XP XK s) s u.sto u.crashed l1 K l3;obtain⟨p,e,H',O,k2⟩:=Zs5 h Y XK (by show 4<=_;omega) 262144;have A:=W.trans u.lm;have hu:=F.used;have hp:=F.peak;rcases k2 with ⟨k,_⟩|⟨_,k,rfl,rfl,C,m⟩|⟨_,k,rfl,o,A',rfl,_,m1,m2,m3⟩
 ·rw[I4]at k;cases k
 ·rcases M with ⟨y,_⟩|⟨y,D,E,Q⟩
  ·exact absurd y k
  ·refine⟨H',_,.inr ⟨C,by rw[O,y],m.at',m.stp,m.own,F,A,?_,D,?_⟩⟩
   ·rcases u.cn.2.2 with h|h
    ·omega
    ·exact h
   ·obtain⟨T,U,V⟩:=Q;refine⟨T,U,fun f Z=>?_⟩;obtain⟨T0,t1,t2⟩:=u.files;have N:=V f Z;have hm:=(K _ N).2;obtain⟨R,z⟩:=Option.ne_none_iff_exists'.1 hm;obtain⟨_,_,_,j,_⟩:=Tc z;have w:=Sx z;rw[t1]at w;rcases zG.1 w with h|h
    ·exact absurd (by rw[<-j];exact zH h) (K _ N).1
    ·rw[<-j];exact t2 R h
 ·rcases M with ⟨y,D,E⟩|⟨y,_⟩
  ·rw[E]at hu;exact⟨H',_,.inl ⟨o,A',O,m1,m2,m3,A,by omega,E,D,u.cn.less X,by omega⟩⟩
  ·rw[y]at k;cases k
theorem XG.start {B:List Fil}{lim:Nat}{s:Sto}(h:Qt B lim s):XG B lim ⟨XK,[],[],262144,0,false⟩ s [] 0:=by
  refine⟨?_,h.lm,h.pk,h.cn,by simpa[ZG]using h.room⟩;have w:=XS.start (B:=B) (pk:=s.peak) (by have:=h.pk;omega)
  have:({ s with limit:=262144,count:=0 }:Sto)=⟨262144,s.peak,B,false,0⟩:=by
    have j:=h.files;have u:=h.crashed;cases s;dsimp only at j u ⊢;subst j u;rfl
  rw[this];exact w
theorem ZlU {a q x:AV}{L:Loc}{p:Spec}{l:List Zl}(ha:LocAV a L)(hok:LocOk L)(hsm:LocSm L)(hq:SpecAV q p)(hks:∀ k∈p.keys,KeOk k)(hkl:p.keys.length<=1048576)(hx:SS x l)(hl40:l.length<=40)(hl200:∀ s∈l,s.length<=200)
    {B:List Fil} (hB:BOk B) (hBt:∀ f∈B,Q3 XK f.name=false) {lim:Nat} {w:Nat} {mem:Int} (hck:ET p mem (w:Int) l=0) {t:Nat} {s:Sto} (hL:Lft B lim s) {S0:List Nat} {H:Hp} (h:StoreAt H t s S0) :
    ∃ H' s' S1,StoreAt H' t s' S1/\Stp S0 H H'/\(∀ z∈S1,z∈S0\/H.length<=z) /\
      ((∃ y,YR [.ptr t 0,a,q,.agg [J zT mem,J zT (w:Int)],x] H=some (.tuple [y,Tx (Za6 L p mem w l),J zT 0],H')/\SS y (ZP L p l)/\Qt B lim s') \/
       YR [.ptr t 0,a,q,.agg [J zT mem,J zT (w:Int)],x] H=some (.tuple [.nils,zst,J zT 19],H')/\Lost B lim s' \/
       YR [.ptr t 0,a,q,.agg [J zT mem,J zT (w:Int)],x] H=some (.tuple [.nils,zst,J zT 12],H')/\Qt B lim s'/\lim<262144):=by
  have hLens:Wt l:=fun s hs=>by have:=hl200 s hs;omega
  obtain⟨hc0,hm1,hm2,hw1,hw2⟩:=Zpl hck;have hqv:=hq;have hav:=ha;obtain⟨lx,cl,e,rfl,hlx,hlc,hle⟩:=ha;obtain⟨xp,rfl,hxp⟩:=hq
  -- the first cells
  have hlen1:(H++[zA (L.cells lx cl e),.cells (p.cells xp),.cells [J zT mem,J zT (w:Int)],.cells [J zT 0,J zT 0,J zT 0,J zT 0],.cells [J zT 0]]).length=H.length+5:=by simp
  have b1:ZO (.agg (p.cells xp)) (H++[zA (L.cells lx cl e)])=some (.ptr (H.length+1) 0,H++[zA (L.cells lx cl e),.cells (p.cells xp)]):=by rw[Yu];simp
  have b2:ZO (.agg [J zT mem,J zT (w:Int)]) (H++[zA (L.cells lx cl e),.cells (p.cells xp)])=some (.ptr (H.length+2) 0,H++[zA (L.cells lx cl e),.cells (p.cells xp),.cells [J zT mem,J zT (w:Int)]]):=by rw[Yu];simp
  have f0:(H++[zA (L.cells lx cl e),.cells (p.cells xp),.cells [J zT mem,J zT (w:Int)],.cells [J zT 0,J zT 0,J zT 0,J zT 0],.cells [J zT 0]])[H.length]?=some (.cells (L.cells lx cl e)):=by simp
  have f1:(H++[zA (L.cells lx cl e),.cells (p.cells xp),.cells [J zT mem,J zT (w:Int)],.cells [J zT 0,J zT 0,J zT 0,J zT 0],.cells [J zT 0]])[H.length+1]?=some (.cells (p.cells xp)):=by simp
  have f2:(H++[zA (L.cells lx cl e),.cells (p.cells xp),.cells [J zT mem,J zT (w:Int)],.cells [J zT 0,J zT 0,J zT 0,J zT 0],.cells [J zT 0]])[H.length+2]?=some (.cells [J zT mem,J zT (w:Int)]):=by simp
  have f3:(H++[zA (L.cells lx cl e),.cells (p.cells xp),.cells [J zT mem,J zT (w:Int)],.cells [J zT 0,J zT 0,J zT 0,J zT 0],.cells [J zT 0]])[H.length+3]?=some (.cells [J zT 0,J zT 0,J zT 0,J zT 0]):=by simp
  have f4:(H++[zA (L.cells lx cl e),.cells (p.cells xp),.cells [J zT mem,J zT (w:Int)],.cells [J zT 0,J zT 0,J zT 0,J zT 0],.cells [J zT 0]])[H.length+4]?=some (.cells [J zT 0]):=by simp
  have t1:Stp [] H (H++[zA (L.cells lx cl e),.cells (p.cells xp),.cells [J zT mem,J zT (w:Int)],.cells [J zT 0,J zT 0,J zT 0,J zT 0],.cells [J zT 0]]):=Stp.push _ _
  have push1:(H++[zA (L.cells lx cl e),.cells (p.cells xp),.cells [J zT mem,J zT (w:Int)]]++[zA [J zT 0,J zT 0,J zT 0,J zT 0]]++[zA [J zT 0]]) =
      (H++[zA (L.cells lx cl e),.cells (p.cells xp),.cells [J zT mem,J zT (w:Int)],.cells [J zT 0,J zT 0,J zT 0,J zT 0],.cells [J zT 0]]):=by simp
  have len3:(H++[zA (L.cells lx cl e),.cells (p.cells xp),.cells [J zT mem,J zT (w:Int)]]).length=H.length+3:=by simp
  have len4:(H++[zA (L.cells lx cl e),.cells (p.cells xp),.cells [J zT mem,J zT (w:Int)]]++[zA [J zT 0,J zT 0,J zT 0,J zT 0]]).length=H.length+4:=by simp
  generalize hH1:(H++[zA (L.cells lx cl e),.cells (p.cells xp),.cells [J zT mem,J zT (w:Int)],.cells [J zT 0,J zT 0,J zT 0,J zT 0],.cells [J zT 0]])=H1 at hlen1 f0 f1 f2 f3 f4 t1 push1;have ls:=Qo f1;have lz:Z3 true 2 (.ptr (H.length+2) 0) H1=some (.agg [J zT mem,J zT (w:Int)]):=by rw[YB f2];rfl
  obtain⟨H2,q1,q2⟩:=Zsw hx hLens (by omega) hqv mem (w:Int) t H1;rw[hck]at q1;have nn:∀ i,i∉([]:List Nat):=fun i h=>by cases h
  have hSl:=h.lt;have h2:=(h.stp t1 fun a _=>nn a).stp q2 fun a _=>nn a;have l12:=q2.len;have e0:((0:Int) != 0)=false:=rfl;have e19:((19:Int) != 0)=true:=rfl;have hoff:∀ i,H.length<=i->i<H2.length->i∉S0:=fun i h1 _ hS=>by have:=hSl i hS;omega
  have hstart:YR [.ptr t 0,.agg (L.cells lx cl e),.agg (p.cells xp),.agg [J zT mem,J zT (w:Int)],x] H=T8 (.ptr t 0) x (.ptr H.length 0) (.ptr (H.length+1) 0) (.ptr (H.length+2) 0) (.ptr (H.length+3) 0) (.ptr (H.length+4) 0) H H2:=by
    rw[ZeR];unfold Il;simp only[Yu,go_sem,b1,b2,len3,push1,len4,ls,lz,q1,e0]
  have hS02:Stp S0 H H2:=(t1.mono fun a h=>absurd h (nn a)).trans (q2.mono (B:=S0) fun a h=>absurd h (nn a)) (fun _ h=>h) fun a h=>.inl h;obtain⟨H3,s3,hop⟩:=Zs4 hB hBt hL h2;rcases hop with ⟨o,A3,o1,o2,o3,o4,hQ⟩|⟨S3,o1,o2,o3,o4,hLo⟩
  rotate_left
  · have hl12:=hS02.len
    have g3:=o3.get (q2.get f3 (nn _)) (hoff _ (by omega) (by omega));have g4:=o3.get (q2.get f4 (nn _)) (hoff _ (by omega) (by omega));have hl23:=o3.len;have sm:=V2 (H:=H3++[zA [.nilp]]) (o:=H3.length) (l:=[.nilp]) (by simp) 0 (v:=.nilp) rfl rfl (by simp);have em:(H3++[zA [.nilp]]).set H3.length (.cells (zM [.nilp] 0 .nilp))=H3++[zA [.nilp]]:=by simp
    rw[em]at sm;obtain⟨f1',f2',f3',f4',f5',f6',f7'⟩:=ZmE (Y3 g3 [zA [.nilp]]) (Y3 g4 [zA [.nilp]]) (show H.length+4≠H.length+3 by omega) 19;have t4:Stp [] H3 (H3++[zA [.nilp]]):=Stp.push _ _;have t5:Stp [H.length+4] (H3++[zA [.nilp]]) ((H3++[zA [.nilp]]).set (H.length+4) (.cells [J zT 19])):=Stp.set _ _ (by simp)
    have hs5:=(o2.stp t4 fun a _=>nn a).stp t5 fun a ha hh=>by
      rw[zB.1 hh]at ha;rcases o4 _ ha with k|k
      · have:=hSl _ k;omega
      · omega
    generalize (H3++[zA [.nilp]]).set (H.length+4) (.cells [J zT 19])=H5 at f1' f2' f4' f5' f6' f7' t5 hs5;have l4:Z3 true 4 (.ptr (H.length+3) 0) H5=some zst:=by rw[YB f6'];rfl
    refine⟨H5,s3,S3,hs5,((hS02.trans o3 (fun _ h=>h) fun a h=>.inl h).trans (t4.mono (B:=S0) fun a h=>absurd h (nn a)) (fun _ h=>h) fun a h=>.inl h).trans t5 (fun _ h=>h) fun a h=>.inr (by rw[zB.1 h];omega),fun z hz=>(o4 z hz).imp id fun h=>by omega,.inr (.inl ⟨?_,hLo⟩)⟩;have o1':Ws [.ptr t 0,.str [115,111,114,116],J zT 262144] H2=some (.tuple [.nilp,J zT 19],H3):=o1;rw[hstart,GF];simp only[o1',go_sem,zC,zD,sm,f1',f2',e19,f3',f4',f5',l4]
  have l23:=o3.len;have hA3:=o2.lt
  have hoffA:∀ i,H.length<=i->i<H2.length->i∉A3:=fun i h1 h2 hA=>by
    rcases o4 i hA with k|k
    · exact hoff i h1 h2 k
    · omega
  have g0:=o3.get (q2.get f0 (nn _)) (hoff _ (by omega) (by omega));have g1:=o3.get (q2.get f1 (nn _)) (hoff _ (by omega) (by omega));have g2:=o3.get (q2.get f2 (nn _)) (hoff _ (by omega) (by omega));have g3:=o3.get (q2.get f3 (nn _)) (hoff _ (by omega) (by omega));have g4:=o3.get (q2.get f4 (nn _)) (hoff _ (by omega) (by omega))
  -- m,closed and the sorter
  have sm:=V2 (H:=H3++[zA [.nilp]]) (o:=H3.length) (l:=[.nilp]) (by simp) 0 (v:=.ptr o 0) rfl rfl (by simp);have em:(H3++[zA [.nilp]]).set H3.length (.cells (zM [.nilp] 0 (.ptr o 0)))=H3++[zA [.ptr o 0]]:=by simp
  rw[em]at sm;have ge4:(H3++[zA [.ptr o 0]])[H.length+4]?=some (.cells [J zT 0]):=Y3 g4 _
  have se:Za 1 (.ptr (H.length+4) 0) (J zT 0) (H3++[zA [.ptr o 0]])=some (.tuple [],H3++[zA [.ptr o 0]]):=by
    have:=V2 ge4 0 (v:=J zT 0) rfl rfl (by simp);rw[this];congr 2;exact SN ge4
  have le4:=ZQ ge4 0 (v:=J zT 0) rfl;have lenm:(H3++[zA [.ptr o 0]]).length=H3.length+1:=by simp
  have sc:=V2 (H:=H3++[zA [.ptr o 0]]++[zA [.bool false]]) (o:=H3.length+1) (l:=[.bool false]) (by simp) 0 (v:=.bool false) rfl rfl (by simp);have ec:(H3++[zA [.ptr o 0]]++[zA [.bool false]]).set (H3.length+1) (.cells (zM [.bool false] 0 (.bool false)))=H3++[zA [.ptr o 0],.cells [.bool false]]:=by simp
  rw[ec]at sc;have t5:Stp [] H3 (H3++[zA [.ptr o 0],.cells [.bool false],.cells (W4 o L lx cl e p xp .nils ⟨0,0,0,0⟩)]):=Stp.push _ _;have lm5:Z3 false 1 (.ptr H3.length 0) (H3++[zA [.ptr o 0],.cells [.bool false]])=some (.ptr o 0):=ZQ (l:=[.ptr o 0]) (by simp) 0 rfl;have ll5:Z3 true 6 (.ptr H.length 0) (H3++[zA [.ptr o 0],.cells [.bool false]])=some (.agg (L.cells lx cl e)):=NL (Y3 g0 _);have lp5:Z3 true 5 (.ptr (H.length+1) 0) (H3++[zA [.ptr o 0],.cells [.bool false]])=some (.agg (p.cells xp)):=Qo (Y3 g1 _);have hfill:(YF [(0,1,.ptr o 0),(1,6,.agg (L.cells lx cl e)),(7,5,.agg (p.cells xp))] [.nilp,(.str []),.nils,(.str []),(.str []),.nils,.nils,.nils,(J zT 0),(J zT 0),(.bool false),(.bool false),.nils,(J zT 0),(J zT 0),(J zT 0),(J zT 0)]).map AV.agg=some (AV.agg (W4 o L lx cl e p xp .nils ⟨0,0,0,0⟩)):=rfl;have bx:ZO (.agg (W4 o L lx cl e p xp .nils ⟨0,0,0,0⟩)) (H3++[zA [.ptr o 0],.cells [.bool false]])=some (.ptr (H3.length+2) 0,H3++[zA [.ptr o 0],.cells [.bool false],.cells (W4 o L lx cl e p xp .nils ⟨0,0,0,0⟩)]):=by rw[Yu];simp
  have hm5:(H3++[zA [.ptr o 0],.cells [.bool false],.cells (W4 o L lx cl e p xp .nils ⟨0,0,0,0⟩)])[H3.length]?=some (.cells [.ptr o 0]):=by simp
  have hc5:(H3++[zA [.ptr o 0],.cells [.bool false],.cells (W4 o L lx cl e p xp .nils ⟨0,0,0,0⟩)])[H3.length+1]?=some (.cells [.bool false]):=by simp
  have hg5:(H3++[zA [.ptr o 0],.cells [.bool false],.cells (W4 o L lx cl e p xp .nils ⟨0,0,0,0⟩)])[H3.length+2]?=some (.cells (W4 o L lx cl e p xp .nils ⟨0,0,0,0⟩)):=by simp
  have l5:(H3++[zA [.ptr o 0],.cells [.bool false],.cells (W4 o L lx cl e p xp .nils ⟨0,0,0,0⟩)]).length=H3.length+3:=by simp
  generalize hH5:(H3++[zA [.ptr o 0],.cells [.bool false],.cells (W4 o L lx cl e p xp .nils ⟨0,0,0,0⟩)])=H5 at t5 bx hm5 hc5 hg5 l5
  have hF5:FxAt H5 (H.length+2) (H.length+3) (H.length+4) H3.length (H3.length+1) o mem (w:Int) false :=
    ⟨t5.get g2 (nn _),t5.get g3 (nn _),t5.get g4 (nn _),hm5,hc5⟩
  have hsys5:=o2.stp t5 fun a _=>nn a
  have hS5:SrAt H5 (H3.length+2) o A3 L lx cl e p xp [] ⟨0,0,0,0⟩ [H3.length+2] :=
    ⟨.nils,hg5,.inl ⟨rfl,rfl⟩,fun a ha hA=>by have:=hA3 a hA;simp[ZI]at ha;omega,by simp[ZI],by simp[ZI]⟩
  have hd5:∀ z∈[H.length+2,H.length+3,H.length+4,H3.length,H3.length+1],z∉[H3.length+2]/\z∉A3:=fun z hz=>by
    simp only[zE,zI,or_false]at hz ⊢;refine⟨by omega,fun hA=>?_⟩;have hlt:=hA3 z hA;rcases o4 z hA with k|k
    · have:=hSl z k;omega
    · omega
  have hnd5:[H.length+2,H.length+3,H.length+4,H3.length,H3.length+1].Nodup:=by
    simp only[zK,zE,zI,or_false,not_or,zP,not_false_eq_true,and_true];omega
  -- the runs are written
  obtain⟨hcf,hcn⟩:=Zvf mem l;have hcl:=Zks hcn;rw[hcf]at hcl;obtain⟨y13,v1,v2⟩:=ZrK (mem:=mem) hx hLens (by omega) H5;have hyl:=v2.len 29
  have hcs:∀ c∈KK mem l,c.length<=40/\∀ s∈c,s.length<=200:=fun c hc=>by
    have hsub:∀ s∈c,s∈l:=fun s hs=>by rw[<-hcf];exact List.mem_flatten.2 ⟨c,hc,hs⟩
    refine⟨?_,fun s hs=>hl200 s (hsub s hs)⟩;have:c.length<=(KK mem l).flatten.length:=(List.sublist_flatten_of_mem hc).length_le;unfold KK at this;rw[hcf]at this;omega
  obtain⟨H6,A6,tm6,s6,w2,w5,w6,ww⟩:=Zpe hB hav hok hqv hks v2 (by omega) hcs H5 (KK mem l) [] [] 0 ⟨0,0,0,0⟩ _ _ A3 [H3.length+2] H5 rfl (by unfold KK;omega) (by unfold KK;simp;omega) (fun x hx=>by cases hx)
    (by unfold KK;rw[hcf];simp[ZZ];omega) ⟨Int.le_refl _,by unfold KK;show (0:Int)+_<=1000;omega⟩ (XG.start hQ) hsys5 hS5
  have lz0:=ZQ hF5.z 0 (v:=J zT mem) rfl;have o1':Ws [.ptr t 0,.str [115,111,114,116],J zT 262144] H2=some (.tuple [.ptr o 0,J zT 0],H3):=o1;have hFl5:=hF5.lt;have hnd9:=hnd5
  have hF6':=hF5.stp w5 fun z hz hh=>by
    rcases zG.1 hh with k|k
    · exact (hd5 z hz).1 k
    · exact (hd5 z hz).2 k
  have hA6o':∀ z∈A6,z∈S0\/H.length<=z:=fun z hz=>by
    rcases w6 z hz with k|k
    · rcases o4 z k with k|k
      · exact .inl k
      · exact .inr (by omega)
    · exact .inr (by omega)
  have k1:Stp S0 H H3:=hS02.trans o3 (fun _ h=>h) fun a h=>.inl h;have k3:Stp S0 H H5:=k1.trans (t5.mono (B:=S0) fun a h=>absurd h (nn a)) (fun _ h=>h) fun a h=>.inl h
  have k4:Stp S0 H H6:=k3.trans w5 (fun _ h=>h) fun a hh=>by
    rcases zG.1 hh with k|k
    · rw[zB.1 k];exact .inr (by omega)
    · rcases o4 a k with k|k
      · exact .inl k
      · exact .inr (by omega)
  have hd6':∀ z∈[H.length+2,H.length+3,H.length+4,H3.length,H3.length+1],z∉A6:=fun z hz hh=>by
    have:=hFl5 z hz;rcases w6 z hh with k|k
    · exact (hd5 z hz).2 k
    · omega
  rcases ww with ⟨S6,w1,w3,w4,w7⟩|⟨er,w1,hbd⟩
  rotate_left
  · have he:=hbd.ne
    obtain⟨f1',f2',f3',f4',f5',f6',f7'⟩:=ZmE hF6'.s hF6'.e (show H.length+4≠H.length+3 by omega) er;have t7:Stp [H.length+4] H6 (H6.set (H.length+4) (.cells [J zT er])):=Stp.set _ _ (by simp);have hm7:=t7.get hF6'.m (by simp;omega);have hc7:=t7.get hF6'.c (by simp;omega);have hsys7:=w2.stp t7 fun x hx h=>hd6' (H.length+4) (by simp) (by rw[<-zB.1 h];exact hx);obtain⟨H8,s8,S8,r1,r2,r3,r4,r5⟩:=ZgH hB hbd hsys7 ⟨f6',f7',hm7,hc7⟩ (fun x hx=>hd6' x (by simp at hx ⊢;omega)) H;have hl67:=t7.len;have hl46:=k4.len;refine⟨H8,s8,S8,r2,(k4.trans t7 (fun _ h=>h) fun a h=>.inr (by rw[zB.1 h];omega)).trans r3 (fun _ h=>h) hA6o',fun z hz=>?_,?_⟩
    · rcases r4 z hz with k|k
      · exact hA6o' z k
      · exact .inr (by omega)
    · have hwr:Vc [.ptr (H3.length+2) 0,x,J zT mem] H5=some (J zT er,H6):=by
        rw[G3];unfold QF;simp only[v1,go_sem,hyl];exact w1
      have hres:YR [.ptr t 0,.agg (L.cells lx cl e),.agg (p.cells xp),.agg [J zT mem,J zT (w:Int)],x] H=some (.tuple [.nils,zst,J zT er],H8):=by
        rw[hstart,GF];simp only[o1',go_sem,zC,zD,sm,se,le4,e0,NB,lenm,sc,lm5,ll5,lp5,hfill,bx,zJ,lz0,hwr,f1',f2',he,f3',f4',f5'];exact r1
      rcases r5 with ⟨rfl,r5⟩|⟨rfl,r5⟩
      · exact .inr (.inl ⟨hres,r5⟩)
      · exact .inr (.inr ⟨hres,r5⟩)
  rw[zJ]at w3
  have hF6:=hF5.stp w5 fun z hz hh=>by
    rcases zG.1 hh with k|k
    · exact (hd5 z hz).1 k
    · exact (hd5 z hz).2 k
  have hF5l:=hF5.lt
  have hd6:∀ z∈[H.length+2,H.length+3,H.length+4,H3.length,H3.length+1],z∉S6/\z∉A6:=fun z hz=>by
    have:=hF5l z hz;refine⟨fun hh=>?_,fun hh=>?_⟩
    · rcases w7 z hh with k|k
      · exact (hd5 z hz).1 k
      · omega
    · rcases w6 z hh with k|k
      · exact (hd5 z hz).2 k
      · omega
  have l56:=w5.len
  -- the passes
  have hI:=Zum (L:=L) (p:=p) hcf hcn hl40 hl200;obtain⟨H7,A7,tm7,s7,u4,u8,u9,uu⟩:=Zng hB hav hok hsm hqv hks hkl (by omega) (by omega) ⟨by omega,by omega,by omega⟩ (.fn (.func 44) [] [.ptr (H.length+4) 0,.ptr (H3.length+1) 0,.ptr H3.length 0]) H 40 (ZrI L p (KK mem l)) tm6 s6 A6 S6 H6 hI.len hI w3 w2 w4 hF6 hd6
  have hA7o:∀ z∈A7,z∈S0\/H.length<=z:=fun z hz=>by
    rcases u9 z hz with k|k
    · exact hA6o' z k
    · exact .inr (by have:=k4.len;omega)
  have le6:=ZQ hF6.e 0 (v:=J zT 0) rfl;have hl46:=k4.len
  have k5:Stp S0 H H7:=k4.trans u8 (fun _ h=>h) fun a hh=>by
    rcases zE.1 hh with k|hh
    · exact .inr (by omega)
    rcases zG.1 hh with k|k
    · rcases w7 a k with k|k
      · rw[zB.1 k];exact .inr (by omega)
      · exact .inr (by omega)
    · exact hA6o' a k
  have l67:=u8.len
  have hwr:Vc [.ptr (H3.length+2) 0,x,J zT mem] H5=some (J zT 0,H6):=by
    rw[G3];unfold QF;simp only[v1,go_sem,hyl];exact w1
  have hmid:YR [.ptr t 0,.agg (L.cells lx cl e),.agg (p.cells xp),.agg [J zT mem,J zT (w:Int)],x] H=XN (.ptr (H.length+2) 0) (.ptr (H.length+3) 0) (.ptr (H.length+4) 0) (.ptr H3.length 0) (.ptr (H3.length+1) 0) (.ptr (H3.length+2) 0) (.fn (.func 44) [] [.ptr (H.length+4) 0,.ptr (H3.length+1) 0,.ptr H3.length 0]) H H6:=by
    rw[hstart,GF];simp only[o1',go_sem,zC,zD,sm,se,le4,e0,NB,lenm,sc,lm5,ll5,lp5,hfill,bx,zJ,lz0,hwr,hF6.e0,le6,ZdJ]
  rw[hmid];rcases uu with ⟨S7,u1,u2,u3,u5,u6,u7,u10⟩|⟨er,u1,hbd,hFb⟩
  rotate_left
  · have hd7':∀ z∈[H.length+3,H.length+4],z∉A7:=fun z hz hh=>by
      have:=hF6.lt z (by simp at hz ⊢;omega);rcases u9 z hh with k|k
      · exact hd6' z (by simp at hz ⊢;omega) k
      · omega
    obtain⟨H8,s8,S8,r1,r2,r3,r4,r5⟩:=ZgH hB hbd u4 hFb hd7' H;refine⟨H8,s8,S8,r2,k5.trans r3 (fun _ h=>h) hA7o,fun z hz=>?_,?_⟩
    · rcases r4 z hz with k|k
      · exact hA7o z k
      · exact .inr (by omega)
    · have hres:=u1.trans r1
      rcases r5 with ⟨rfl,r5⟩|⟨rfl,r5⟩
      · exact .inr (.inl ⟨hres,r5⟩)
      · exact .inr (.inr ⟨hres,r5⟩)
  obtain⟨H8,s8,S8,z3,z5,z6,zz⟩:=Zuu hB hav hok hsm hqv hks hkl hnd5 H u2 u3 u4 u5 u6 u7;rw[u1];refine⟨H8,s8,S8,z3,k5.trans z5 (fun _ h=>h) fun a hh=>?_,fun z hz=>?_,zz.imp id .inl⟩
  · rcases zE.1 hh with k|hh
    · exact .inr (by omega)
    rcases zE.1 hh with k|hh
    · exact .inr (by omega)
    rcases zE.1 hh with k|hh
    · exact .inr (by omega)
    · exact hA7o a hh
  · rcases z6 z hz with k|k
    · exact hA7o z k
    · exact .inr (by omega)
theorem Zp4 {x y:AV}{l:List Zl}(F:SS x l)(K:SS y l)(hl:l.length<=1048576)(I H:Hp):∀ (r d:List Zl),l=d++r->N5 x y (J zT (d.length:Int)) I H=some (.bool true,H):=by
 have E:=SS.len F 9;intro r
 induction r with
 |nil =>
  intro d j;rw[zL]at j;subst j;have h:decide ((l.length:Int)<(l.length:Int))=false:=by simp
  rw[IF];simp only[go_sem,E,h,Zjp]
 |cons s r M =>
  intro d j;have D:l.length=d.length+(r.length+1):=by rw[j];simp
  have h:decide ((d.length:Int)<(l.length:Int))=true:=by rw[decide_eq_true_eq];omega
  have u:l[d.length]?=some s:=by rw[j,List.getElem?_append_right (zS _)];simp
  have w:=SS.idx F u;have z:=SS.idx K u;have C:IntKind.i64.wrap ((d.length:Int)+1)=((d++[s]).length:Int):=by rw[Zp (by omega) (by omega)];simp
  have A:(s==s)=true:=beq_self_eq_true _;have:=M (d++[s]) (by rw[j];simp);rw[IF];simp only[go_sem,E,h,Zjq,w,z,Zx,A,zR,Zjr,C];exact this
theorem Zg6 {x y:AV}{l:List Zl}(A:SS x l)(C:SS y l)(hl:l.length<=1048576)(H:Hp):Zh Lc [x,y] H=some (.bool true,H):=by
 obtain⟨E,w,j⟩:=SS.closed A [] 0 7;obtain⟨F,D,u⟩:=SS.closed C [] 0 7;have z:=SS.len j 9;have hm:=SS.len u 9;have h:((l.length:Int) != (l.length:Int))=false:=by simp
 refine Wy (args':=[E,F]) (H1:=[]) (by rw[zQ,w,zQ,D];rfl) ?_ rfl;rw[Zl9];unfold Zhf;simp only[go_sem,z,hm,h,Zjo];exact Zp4 j u hl [] [] l [] rfl
def Fi:Zm:=[100,97,116,97]
def ZlL:Zm:=[107,101,112,116]
def G6 (n:Nat):Fil:=⟨Fi,ZlL,n⟩
theorem ZgA {n:Nat}(j:n<=4):BOk [G6 n] :=
 ⟨by simp,fun f h=>by rw[zB.1 h];kernel_rfl,fun f h=>by rw[zB.1 h];exact j,by simp,by show 4+0<=1000;omega,fun f h i=>by
  rw[zB.1 h];intro e;have:=congrArg (fun l=>l.headD 0) e;exact absurd this (by show ¬ ((100:UInt8)=(ZK i).headD 0);have:(ZK i).headD 0=46:=rfl;rw[this];decide)⟩
end Go.Am
