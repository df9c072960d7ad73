/-
  The law of TempfileCleans, in the machine (ZD seat only).
-/
import Derived.Test.YtebjpfbenjgglaaGreatDoorTzKx
import Derived.Test.YtebjpfbenjgglaaGreatDoorTzLcx
namespace Go.Am
set_option linter.unusedSimpArgs false
set_option linter.unusedVariables false
set_option linter.unusedSectionVars false
set_option maxRecDepth 100000

theorem foldl_rm:∀ (l:List Txt) (L:List Fil),(L.map Fil.name).Nodup→l.foldl rmF L=L.filter fun f=>decide (f.name ∉ l):=by
 intro l
 induction l with
 | nil=>intro L _;exact (List.filter_eq_self.2 fun f _=>by simp).symm
 | cons n l ih =>
  intro L nd
  rw [List.foldl_cons,ih _ (nd.sublist ((rmF_sub L n).map _)),rmF_filter nd,List.filter_filter]
  congr 1
  funext f
  rw [Bool.eq_iff_iff]
  simp
  exact And.comm
theorem listF_foldl:∀ (l:List Txt) (L:List Fil),(L.map Fil.name).Nodup→listF (l.foldl rmF L)=l.foldl rmF (listF L):=by
 intro l
 induction l with
 | nil=>intro L _;rfl
 | cons n l ih =>
  intro L nd
  rw [List.foldl_cons,List.foldl_cons,ih _ (nd.sublist ((rmF_sub L n).map _)),listF_rm nd]
theorem openRm_calm:∀ (l:List Txt) (s:Sto),s.crashed=false→s.count=0→l.Nodup→(∀ n ∈ l,getF s.files n ≠ none)→openRm l s=(0,{ s with files:=l.foldl rmF s.files }):=by
 intro l
 induction l with
 | nil=>intro s _ _ _ _;rfl
 | cons n l ih =>
  intro s hc h0 hnd hg
  obtain ⟨f,hgf⟩:=Option.ne_none_iff_exists'.1 (hg n (by simp))
  have hrem:s.remove n=(0,{ s with files:=rmF s.files n }):=by
   unfold Sto.remove
   rw [tick_still hc h0,if_neg (by simp [hc]),hgf]
  rw [openRm,hrem,if_neg (by simp),ih { s with files:=rmF s.files n } hc h0 (List.nodup_cons.1 hnd).2 fun m hm=>?_]
  ·rfl
  ·have hne:m ≠ n:=fun e=>(List.nodup_cons.1 hnd).1 (e ▸ hm)
   show getF (rmF s.files n) m ≠ none
   rw [rmF_ne hne]
   exact hg m (by simp [hm])
def keepF (ow:Txt) (L:List Fil):List Fil:=L.filter fun f=>!tmpB ow f.name
theorem left_open {ow:Txt} (hv:validS ow=true) {s:Sto} (hk:ROk s) (hc:s.crashed=false) (h0:s.count=0):(openRm (leftS ow s) s).1=0∧listF (openRm (leftS ow s) s).2.files=keepF ow (listF s.files)∧leftS ow (openRm (leftS ow s) s).2=[]:=by
 have hls:leftS ow s=leftF ow (listF s.files):=by unfold leftS;rw [if_pos hv]
 have hnd:=listF_nd hk.nd
 have h1:(leftS ow s).Nodup:=by rw [hls];unfold leftF;exact hnd.sublist List.filter_sublist
 have h2:∀ n ∈ leftS ow s,getF s.files n ≠ none:=fun n hn=>by
  rw [hls] at hn
  unfold leftF at hn
  obtain ⟨f,hf⟩:=getF_mem (l:=s.files) (n:=n) (by
   have:=(List.mem_filter.1 hn).1
   rw [listF_names hk.nd] at this
   exact (sortK_mem _ _).1 this)
  rw [hf];exact fun h=>by cases h
 have h3:=openRm_calm (leftS ow s) s hc h0 h1 h2
 have h4:listF ((leftS ow s).foldl rmF s.files)=keepF ow (listF s.files):=by
  rw [listF_foldl _ _ hk.nd,foldl_rm _ _ hnd]
  unfold keepF
  refine List.filter_congr fun f hf=>?_
  rw [Bool.eq_iff_iff,decide_eq_true_eq,Bool.not_eq_true',hls]
  unfold leftF
  rw [List.mem_filter]
  have:f.name ∈ (listF s.files).map Fil.name:=List.mem_map_of_mem hf
  simp [this]
 rw [h3]
 refine ⟨rfl,h4,?_⟩
 show (if validS ow=true then leftF ow (listF ((leftS ow s).foldl rmF s.files)) else [])=[]
 rw [if_pos hv,h4]
 unfold leftF keepF
 rw [List.filter_eq_nil_iff]
 intro n hn
 obtain ⟨f,hf,rfl⟩:=List.mem_map.1 hn
 have:=(List.mem_filter.1 hf).2
 simpa using this
def FlAt (H:Hp) (x:AV) (l:List Fil):Prop:=x=.nils∧l=[] ∨ ∃ t e,x=.vs 3 (.own t e) (l.map filAV)∧H[t]?=some (.tok e)
theorem FlAt.sl {H:Hp} {x:AV} {l:List Fil} (h:FlAt H x l):Sl 3 x (l.map filAV):=by
 rcases h with ⟨rfl,rfl⟩ | ⟨t,e,rfl,_⟩
 ·exact .inl ⟨rfl,rfl⟩
 ·exact .inr ⟨_,rfl⟩
theorem FlAt.frame {H H':Hp} {x:AV} {l:List Fil} (h:FlAt H x l) (hf:∀ a ∈ tokA x,H'[a]?=H[a]?):FlAt H' x l :=
 h.imp id fun ⟨t,e,h1,h2⟩=>⟨t,e,h1,(hf t (by rw [h1];simp [tokA])).trans h2⟩
theorem FlAt.lt {H:Hp} {x:AV} {l:List Fil} (h:FlAt H x l):∀ a ∈ tokA x,a < H.length:=by
 intro a ha
 rcases h with ⟨rfl,_⟩ | ⟨t,e,rfl,ht⟩
 ·cases ha
 ·rw [List.mem_singleton.1 ha];exact lt_of_get ht
theorem FlAt.app {H : Hp} {x : AV} {l : List Fil} (h : FlAt H x l) (f : Fil) (hl : l.length ≤ 1048576) :
    ∃ x' H',aappE 3 32 x (.vs 3 .clip [filAV f]) H=some (x',H')∧FlAt H' x' (l++[f])∧Stp (tokA x) H H'∧(∀ a ∈ tokA x',a ∈ tokA x ∨ a=H.length):=by
 unfold aappE
 have he:Go.Am.elems 3 (.vs 3 .clip [filAV f]) H=some [filAV f]:=rfl
 rw [he]
 have hfit:fits ((l.map filAV).length+[filAV f].length) 32=true:=by simp [fits];omega
 have hone:fits [filAV f].length 32=true:=rfl
 rcases h with ⟨rfl,rfl⟩ | ⟨t,e,rfl,ht⟩
 ·refine ⟨.vs 3 (.own H.length 1) [filAV f],H++[.tok 1],?_,.inr ⟨H.length,1,rfl,by simp⟩,Stp.push _ _,fun a ha=>.inr (List.mem_singleton.1 ha)⟩
  simp only [aappend,hone,if_true]
  rw [if_neg (by simp)]
  rfl
 ·refine ⟨.vs 3 (.own t (e+1)) (l.map filAV++[filAV f]),H.set t (.tok (e+1)),?_,.inr ⟨t,e+1,by simp,get_set_eq _ ht⟩,Stp.set _ _ (by simp [tokA]),fun a ha=>.inl (by simpa [tokA] using ha)⟩
  simp only [aappend,hfit,and_self,if_true,ht]
  rw [if_neg (by simp)]
  rfl
abbrev s00:Sto:=⟨0,0,[],false,0⟩
theorem s00_ok:ROk s00:=⟨⟨by decide,by simp [usedL],by simp,by simp,by simp,by simp,by simp,by simp⟩,fun _=>rfl⟩
theorem s00_create {n:Txt} (h:nameB n=true):s00.create n=(0,{ s00 with files:=[⟨n,[],0⟩] }):=by
 unfold Sto.create
 rw [tick_still rfl rfl,if_neg (by simp),if_neg (by simp [h])]
 rfl
theorem s00_remove (n:Txt):({ s00 with files:=[⟨n,[],0⟩] }:Sto).remove n=(0,s00):=by
 unfold Sto.remove
 rw [tick_still rfl rfl,if_neg (by simp)]
 simp [getF,rmF]
theorem s00_left {ow n:Txt} (hv:validS ow=true):(leftS ow { s00 with files:=[⟨n,[],0⟩] }).length=if tmpB ow n then 1 else 0:=by
 have hl:listF [(⟨n,[],0⟩:Fil)]=[⟨n,[],0⟩]:=by simp [listF,sortK,insK,getF]
 unfold leftS
 rw [if_pos hv]
 show (leftF ow (listF [(⟨n,[],0⟩:Fil)])).length=_
 rw [hl]
 unfold leftF
 cases h:tmpB ow n <;> simp [h]
theorem cleans_loop {ow : Txt} (ho : ow.length ≤ 1048000) (hv : validS ow = true) {x z : AV} {L : List Fil} (hx : Sl 3 x (L.map filAV)) (hz : Sl 3 z ((keepF ow L).map filAV)) (h64 : L.length ≤ 64) (hn : ∀ f ∈ L, nameB f.name = true) {u : Nat} (H0 : Hp) : ∀ (q d : List Fil) (H : Hp) (R : List Nat) (y : AV), L = d ++ q → RefAt H u s00 R → FlAt H y (keepF ow d) → (∀ a ∈ tokA y, a ∉ R) →
    ∃ H',L19_TempfileCleans_L1 (.str ow) x z (.ptr u 0) y (.int .i64 (d.length:Int)) H0 H=some (.bool true,H'):=by
 have hxl:∀ t,alenD (.slice t) x=some (.int .i64 (L.length:Int)):=fun t=>by have:=Sl.len hx t;rwa [List.length_map] at this
 intro q
 induction q with
 | nil =>
  intro d H R y hd hr hy hdis
  rw [List.append_nil] at hd
  subst hd
  have hlt:decide ((L.length:Int) < (L.length:Int))=false:=by simp
  have hkl:(keepF ow L).length≤64:=Nat.le_trans (List.length_filter_le _ _) h64
  have hsf:=sameF_flat hy.sl hz hkl H
  obtain ⟨H',hw⟩:=awake19_run H
  refine ⟨H',?_⟩
  rw [L19_TempfileCleans_L1_eq]
  simp only [go_sem,hxl,hlt,L19_TempfileCleans_J5_eq,hsf,hw]
 | cons f q ih =>
  intro d H R y hd hr hy hdis
  have hlen:L.length=d.length+(q.length+1):=by rw [hd];simp
  have hlt:decide ((d.length:Int) < (L.length:Int))=true:=by simp;omega
  have hw1:IntKind.i64.wrap ((d.length:Int)+1)=((d.length+1:Nat):Int):=by rw [wrap64 (by omega) (by omega)];omega
  have hi:L[d.length]?=some f:=by rw [hd,List.getElem?_append_right (Nat.le_refl _)];simp
  have hidx:aindexS 3 x (.int .i64 (d.length:Int))=some (.vp (filAV f).cells):=Sl.idx hx (c:=filAV f) (by simp [hi])
  have haf:afield 0 (.vp (filAV f).cells)=some (.vp (filAV f).cells):=rfl
  have hld:∀ H:Hp,aload false 1 (.vp (filAV f).cells) H=some (.str f.name):=fun _=>rfl
  have hld3:∀ H:Hp,aload true 3 (.vp (filAV f).cells) H=some (filAV f):=fun H=>load_fil f H
  have hnb:=hn f (by rw [hd];simp)
  have hnl:f.name.length≤1048576:=Nat.le_trans (name_len hnb) (by omega)
  obtain ⟨H1,R1,c1,c2⟩:=rCreate_run hr s00_ok f.name hnl
  rw [s00_create hnb] at c1 c2
  have ok1:ROk { s00 with files:=[⟨f.name,[],0⟩] }:=by have:=create_rok s00_ok f.name;rwa [s00_create hnb] at this
  obtain ⟨yl,l1,l2⟩:=rLeft_ro c2.at' ok1 ow ho
  have hll:∀ t,alenD (.slice t) yl=some (.int .i64 ((leftS ow { s00 with files:=[⟨f.name,[],0⟩] }).length:Int)):=fun t=>l2.len t
  rw [s00_left hv] at hll
  have hy1:FlAt H1 y (keepF ow d):=hy.frame fun a ha=>c2.stp.at' a (hy.lt a ha) (hdis a ha)
  have hd1:∀ a ∈ tokA y,a ∉ R1:=fun a ha hb=>by
   rcases c2.own a hb with k | k
   ·exact hdis a ha k
   ·have:=hy.lt a ha;omega
  have hkd:keepF ow (d++[f])=keepF ow d++(if tmpB ow f.name then [] else [f]):=by
   unfold keepF
   rw [List.filter_append]
   congr 1
   cases h:tmpB ow f.name <;> simp [h]
  have hkdl:(keepF ow d).length≤d.length:=List.length_filter_le _ _
  have go:∀ {H2:Hp} {y2:AV},RefAt H2 u { s00 with files:=[⟨f.name,[],0⟩] } R1→FlAt H2 y2 (keepF ow (d++[f]))→(∀ a ∈ tokA y2,a ∉ R1)→∃ H',L19_TempfileCleans_J8 (.str ow) x z (.ptr u 0) y2 (.int .i64 (d.length:Int)) H0 H2=some (.bool true,H'):=by
   intro H2 y2 g1 g2 g3
   obtain ⟨H3,R3,r1,r2⟩:=rRemove_run g1 ok1 f.name
   rw [s00_remove] at r1 r2
   obtain ⟨H',k⟩:=ih (d++[f]) H3 R3 y2 (by rw [hd];simp) r2.at' (g2.frame fun a ha=>r2.stp.at' a (g2.lt a ha) (g3 a ha)) fun a ha hb=>by
    rcases r2.own a hb with k | k
    ·exact g3 a ha k
    ·have:=g2.lt a ha;omega
   rw [List.length_append,List.length_singleton] at k
   refine ⟨H',?_⟩
   rw [L19_TempfileCleans_J8_eq]
   simp only [go_sem,hidx,haf,hld,r1,L19_TempfileCleans_J7_eq,hw1]
   exact k
  rw [L19_TempfileCleans_L1_eq]
  cases ht:tmpB ow f.name with
  | true =>
   rw [ht,if_pos rfl] at hll
   rw [ht,if_pos rfl,List.append_nil] at hkd
   obtain ⟨H',k⟩:=go c2.at' (by rw [hkd];exact hy1) hd1
   have e0:(((1:Nat):Int) == 0)=false:=rfl
   exact ⟨H',by simp only [go_sem,hxl,hlt,L19_TempfileCleans_J6_eq,hidx,haf,hld,c1,l1,hll,e0];exact k⟩
  | false =>
   rw [ht,if_neg (by simp)] at hll
   rw [ht,if_neg (by simp)] at hkd
   have hone:(setElems 3 [(0,filAV f)] [(.agg [(.str []),(.int .i64 0),(.int .i64 0)])]).map (AV.vs 3 .clip)=some (.vs 3 .clip [filAV f]):=rfl
   obtain ⟨y2,H2,p1,p2,p3,p4⟩:=hy1.app f (by omega)
   have hl1:=c2.at'.lt
   obtain ⟨H',k⟩:=go (H2:=H2) (c2.at'.stp p3 fun a ha hb=>hd1 a hb ha) (by rw [hkd];exact p2) fun a ha hb=>by
    rcases p4 a ha with k | k
    ·exact hd1 a k hb
    ·have:=hl1 a hb;omega
   have e0:(((0:Nat):Int) == 0)=true:=rfl
   exact ⟨H',by simp only [go_sem,hxl,hlt,L19_TempfileCleans_J6_eq,hidx,haf,hld,c1,l1,hll,e0,hld3,hone,p1];exact k⟩
theorem cleans_end {ow : Txt} (ho : ow.length ≤ 1048000) {H : Hp} {t : Nat} {p : AV} {m : Option Tmp} {s : Sto} {A : List Nat} (h : MAt H t p m s A) (hs : ROk s) (kept : Nat) (H0 : Hp) :
    ∃ H',L19_TempfileCleans_J2 (.str ow) (.int .u64 (kept:Int)) (.ptr t 0) H0 H=some (.bool true,H'):=by
 obtain ⟨S,hst,_⟩:=h.store
 obtain ⟨H1,S1,a1,a2,_⟩:=Restart_run hst hs.sto kept
 have hs1:=restart_rok hs kept
 have hc1:(s.restart kept).crashed=false:=rfl
 have h01:(s.restart kept).count=0:=rfl
 generalize hgs:s.restart kept=s1 at a2 hs1 hc1 h01
 obtain ⟨x,b1,b2⟩:=List_ro a2.at' hs1.sto
 obtain ⟨p1,e,H2,q1,q2⟩:=TOpen_run a2.at' hs1 ow (by omega) 9000
 rw [L19_TempfileCleans_J2_eq]
 have hn1:∀ c,ebin (.pointer c) .eql .nilp .nilp=some (.bool true):=fun _=>rfl
 have hn2:∀ c o,ebin (.pointer c) .eql (.ptr o 0) .nilp=some (.bool false):=fun _ _=>rfl
 have hs0:(⟨(min (max 0 0) 262144:Int).toNat,0,[],false,0⟩:Sto)=s00:=rfl
 rcases q2 with ⟨v1,rfl,rfl,rfl⟩ | ⟨v1,v2,_⟩ | ⟨v1,v2,rfl,o,A',rfl,v3,v4,v5,v6⟩
 ·obtain ⟨H3,r1,r2,_⟩:=rNew_run 0 H2
  rw [hs0] at r2
  obtain ⟨p2,e2,H4,w1,w2⟩:=ROpen19_run r2 s00_ok ow ho 0
  rcases w2 with ⟨_,rfl,rfl,rfl⟩ | ⟨k,_⟩ | ⟨k,_⟩
  ·have hsf:=sameF_flat b2 b2 hs1.len H4
   obtain ⟨H',hw⟩:=awake19_run H4
   have e40:((4:Int) != 0)=true:=rfl
   have e44:((4:Int) == 4)=true:=rfl
   exact ⟨H',by simp only [a1,b1,q1,r1,w1,go_sem,List.getElem?_cons_zero,List.getElem?_cons_succ,e40,hn1,e44,hsf,hw]⟩
  ·rw [v1] at k;cases k
  ·rw [v1] at k;cases k
 ·exact absurd (left_open v1 hs1 hc1 h01).1 v2
 ·obtain ⟨o1,o2,o3⟩:=left_open v1 hs1 hc1 h01
  have hs2:=openRm_rok (leftS ow s1) s1 hs1
  have v4k:=v4
  obtain ⟨B,S2,v7,v8,v9,rfl⟩:=v4k
  obtain ⟨z,c1,c2⟩:=List_ro v8 hs2.sto
  rw [o2] at c2
  obtain ⟨H3,r1,r2,r3⟩:=rNew_run 0 H2
  rw [hs0] at r2
  obtain ⟨p2,e2,H4,w1,w2⟩:=ROpen19_run r2 s00_ok ow ho 0
  have hl0:leftS ow s00=[]:=by unfold leftS;rw [if_pos v1];rfl
  rcases w2 with ⟨k,_⟩ | ⟨_,k,_⟩ | ⟨_,_,rfl,o4,R4,rfl,_,_,_,w6⟩
  ·rw [v1] at k;cases k
  ·rw [hl0] at k;exact absurd rfl k
  have hS3:Stp [] H2 H3:=by rw [r3];exact Stp.push _ _
  have hS4:Stp [H2.length] H2 H4:=(hS3.mono fun a ha=>by cases ha).trans w6.stp (fun _ h=>h) fun a ha=>.inl ha
  have v4':SysAt H4 o t ⟨ow,[],[],(max 0 9000:Int).toNat,0,false⟩ (openRm (leftS ow s1) s1).2 (B++S2):=v4.stp hS4 fun a ha hb=>by
   have:=v4.lt a ha
   rw [List.mem_singleton.1 hb] at this
   omega
  have tok:TmpOk ⟨ow,[],[],(max 0 9000:Int).toNat,0,false⟩:=⟨valid_len v1,by show (max 0 9000:Int).toNat≤9223372036854775807;omega,by simp,by simp⟩
  have hus:=Used_ro v4' tok hs2.sto
  have hu0:(if (⟨ow,[],[],(max 0 9000:Int).toNat,0,false⟩:Tmp).closed then (0:Int) else (tmUsed ⟨ow,[],[],(max 0 9000:Int).toNat,0,false⟩ (openRm (leftS ow s1) s1).2:Int))=0:=by
   have:∀ l:List Fil,usedN [] l=0:=fun l=>by induction l with
    | nil=>rfl
    | cons f l ih=>simp [usedN,ih]
   rw [if_neg (by simp)]
   unfold tmUsed
   rw [this]
   rfl
  rw [hu0] at hus
  obtain ⟨B4,S4,_,v8',_,hA4⟩:=v4'
  obtain ⟨yl,l1,l2⟩:=Left_ro v8' hs2.sto ow (by omega)
  have hll:∀ t,alenD (.slice t) yl=some (.int .i64 0):=fun t=>by have:=l2.len t;rwa [o3] at this
  obtain ⟨H5,n1,n2,_⟩:=rNew_run 0 H4
  rw [hs0] at n2
  obtain ⟨H',k⟩:=cleans_loop ho v1 b2 c2 hs1.len (fun f hf=>hs1.sto.name f (listF_mem hf)) H0 (listF s1.files) [] H5 [H4.length] .nils rfl n2 (.inl ⟨rfl,rfl⟩) (fun a ha=>by cases ha)
  have e00:((0:Int) != 0)=false:=rfl
  refine ⟨H',?_⟩
  simp only [a1,b1,q1,c1,r1,w1,go_sem,List.getElem?_cons_zero,List.getElem?_cons_succ,e00,L19_TempfileCleans_J3_eq,hn2,l1,hll,hus,L19_TempfileCleans_J4_eq,n1]
  exact k
theorem cleans_calls {ow : Txt} (ho : ow.length ≤ 1048000) {x : AV} {cs : List Cl} (hx : CsV x cs) (hco : ∀ c ∈ cs, ClOk c) (hcs : CsOk cs) (kept : Nat) {t : Nat} (H0 : Hp) : ∀ (r d : List Cl) (H : Hp) (p : AV) (m : Option Tmp) (s : Sto) (A : List Nat), cs = d ++ r → MAt H t p m s A → MInv m d.length → ROk s →
    ∃ H',L19_TempfileCleans_L2 (.str ow) x (.int .u64 (kept:Int)) (.ptr t 0) p (.int .i64 (d.length:Int)) H0 H=some (.bool true,H'):=by
 have h40:=hcs.cnt
 have hxl:∀ u,alenD (.slice u) x=some (.int .i64 (cs.length:Int)):=fun u=>hx.len u
 intro r
 induction r with
 | nil =>
  intro d H p m s A hd h hm hs
  rw [List.append_nil] at hd
  subst hd
  have hlt:decide ((cs.length:Int) < (cs.length:Int))=false:=by simp
  obtain ⟨H',k⟩:=cleans_end ho h hs kept H0
  exact ⟨H',by rw [L19_TempfileCleans_L2_eq];simp only [go_sem,hxl,hlt];exact k⟩
 | cons c r ih =>
  intro d H p m s A hd h hm hs
  have hlen:cs.length=d.length+(r.length+1):=by rw [hd];simp
  have hlt:decide ((d.length:Int) < (cs.length:Int))=true:=by simp;omega
  have hw1:IntKind.i64.wrap ((d.length:Int)+1)=((d.length+1:Nat):Int):=by rw [wrap64 (by omega) (by omega)];omega
  have hcm:c ∈ cs:=by rw [hd];simp
  obtain ⟨y,hi,hy⟩:=hx.idx (i:=d.length) (c:=c) (by rw [hd,List.getElem?_append_right (Nat.le_refl _)];simp)
  obtain ⟨H1,A1,p1,q1,q2⟩:=do_run h hm hs (by omega) c (hco c hcm) (hcs.all c hcm) hy
  obtain ⟨i1,i2⟩:=doP_inv hm hs (hco c hcm) (by omega)
  obtain ⟨H',k⟩:=ih (d++[c]) H1 p1 _ _ A1 (by rw [hd];simp) q2.at' (by rw [List.length_append,List.length_singleton];exact i1) i2
  rw [List.length_append,List.length_singleton] at k
  refine ⟨H',?_⟩
  rw [L19_TempfileCleans_L2_eq]
  simp only [go_sem,hxl,hlt,L19_TempfileCleans_J9_eq,hi,aload_cl,q1,List.getElem?_cons_zero,List.getElem?_cons_succ,L19_TempfileCleans_J10_eq,hw1]
  exact k
theorem Cleans_law {ow:Txt} (ho:ow.length≤1048576) {x:AV} {cs:List Cl} (hx:CsV x cs) (hco:∀ c ∈ cs,ClOk c) (hl:cs.length≤1048576) (kept:Nat):∃ H',C_L19_TempfileCleans [.str ow,x,.int .u64 (kept:Int)] []=some (.bool true,H'):=by
 have hol:alenD .string (.str ow)=some (.int .i64 (ow.length:Int)):=rfl
 rw [F_L19_TempfileCleans_eq]
 unfold F_L19_TempfileCleans
 obtain ⟨b,k1,k2⟩:=few_flat hx hl []
 obtain ⟨Hw,hw⟩:=awake19_run []
 cases b with
 | false=>exact ⟨Hw,by simp only [k1,go_sem,Bool.not_false,hw]⟩
 | true =>
  by_cases h100:100 < ow.length
  ·have c2:decide ((100:Int) < (ow.length:Int))=true:=by simp;omega
   exact ⟨Hw,by simp only [k1,go_sem,Bool.not_true,hol,c2,hw]⟩
  ·have c2:decide ((100:Int) < (ow.length:Int))=false:=by simp;omega
   obtain ⟨H1,q1,q2,_⟩:=New_run 262144 (by omega) []
   have hs0:(⟨(min (max 262144 0) 262144:Int).toNat,0,[],false,0⟩:Sto)=⟨262144,0,[],false,0⟩:=rfl
   rw [hs0] at q2
   have o0:ROk ⟨262144,0,[],false,0⟩:=⟨⟨Nat.le_refl _,by simp [usedL],Nat.zero_le _,by simp,by simp,by simp,by simp,Nat.zero_le _⟩,fun _=>rfl⟩
   obtain ⟨H2,A2,p2,r1,r2⟩:=mopen (p:=.nilp) (m:=none) ⟨rfl,q2⟩ o0 ow ho 9000
   obtain ⟨H',k⟩:=cleans_calls (ow:=ow) (by omega) hx hco (k2 rfl) kept [] cs [] H2 p2 _ _ A2 rfl r2.at' (gopen_inv ow 9000 (by omega) _ _) (gopen_rok o0 ow 9000)
   simp only [List.length_nil] at q1 r1 k
   refine ⟨H',?_⟩
   simp only [k1,go_sem,Bool.not_true,hol,c2,L19_TempfileCleans_J1_eq,q1,r1,List.getElem?_cons_zero,List.getElem?_cons_succ]
   exact k
end Go.Am
