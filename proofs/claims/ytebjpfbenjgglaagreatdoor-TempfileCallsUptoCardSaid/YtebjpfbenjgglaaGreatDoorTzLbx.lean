/-
  The files that are left of an owner.
-/
import Derived.Test.YtebjpfbenjgglaaGreatDoorTzAx
namespace Go.Am
set_option linter.unusedSimpArgs false
set_option linter.unusedVariables false
set_option linter.unusedSectionVars false
set_option maxRecDepth 100000

def numB (s:Txt):Bool:=s.all digB && (!s.isEmpty && !(s.headD 0 == 48))
theorem digB_int (b:UInt8):digB b=(!decide ((b.toNat:Int) < 48) && !decide ((57:Int) < (b.toNat:Int))):=by
 rw [Bool.eq_iff_iff]
 simp [digB,UInt8.le_iff_toNat_le]
 omega
theorem numbered_J1 (s:Txt) (H0 H:Hp):tempfile_numbered_J1 (.str s) H0 H=some (.bool (!s.isEmpty && !(s.headD 0 == 48)),H):=by
 rw [tempfile_numbered_J1_eq]
 cases s with
 | nil =>
  have:(!(([]:Txt) == []))=false:=rfl
  simp only [go_sem,sbin,strbin,this,List.isEmpty_nil,Bool.not_true,Bool.false_and]
 | cons b l =>
  have:(!((b :: l) == ([]:Txt)))=true:=rfl
  have hi:aindexStr (.str (b :: l)) (.int .i64 0)=some (.int .u8 (b.toNat:Int)):=aindexStr_of (i:=0) rfl
  have hb:(((b.toNat:Int)) != 48)=!(b == 48):=by
   by_cases h:b=48
   ·subst h;rfl
   ·have h2:b.toNat ≠ 48:=fun e=>h (UInt8.toNat_inj.1 e)
    have h3:(b == 48)=false:=by simpa using h
    rw [h3]
    simp
    omega
  simp only [go_sem,sbin,strbin,this,hi,hb,List.isEmpty_cons,Bool.not_false,Bool.true_and,List.headD_cons]
theorem numbered_loop (s : Txt) (hs : s.length ≤ 1048576) (H0 H : Hp) : ∀ (k i : Nat), s.length - i = k → i ≤ s.length →
    tempfile_numbered_L1 (.str s) (.int .i64 (s.length:Int)) (.int .i64 (i:Int)) H0 H=some (.bool ((s.drop i).all digB && (!s.isEmpty && !(s.headD 0 == 48))),H):=by
 intro k
 induction k with
 | zero =>
  intro i hk hi
  rw [tempfile_numbered_L1_eq]
  have hlt:decide ((i:Int) < (s.length:Int))=false:=by simp;omega
  have hd:s.drop i=[]:=List.drop_eq_nil_iff.2 (by omega)
  simp only [go_sem,hlt,numbered_J1,hd,List.all_nil,Bool.true_and]
 | succ k ih =>
  intro i hk hi
  rw [tempfile_numbered_L1_eq]
  have hl:i < s.length:=by omega
  have hlt:decide ((i:Int) < (s.length:Int))=true:=by simp;omega
  have hw:IntKind.i64.wrap ((i:Int)+1)=((i+1:Nat):Int):=by rw [wrap64 (by omega) (by omega)];omega
  have hix:aindexStr (.str s) (.int .i64 (i:Int))=some (.int .u8 (s[i].toNat:Int)):=aindexStr_of (List.getElem?_eq_getElem hl)
  rw [List.drop_eq_getElem_cons hl,List.all_cons,digB_int s[i]]
  simp only [go_sem,hlt,tempfile_numbered_J2_eq,hix]
  cases h1:decide ((s[i].toNat:Int) < 48) with
  | true=>simp only [go_sem,Bool.not_true,Bool.false_and]
  | false =>
   cases h2:decide ((57:Int) < (s[i].toNat:Int)) with
   | true=>simp only [go_sem,hix,h2,Bool.not_true,Bool.not_false,Bool.false_and,Bool.and_false]
   | false =>
    simp only [go_sem,hix,h2,Bool.not_false,Bool.and_true,Bool.true_and,tempfile_numbered_J3_eq,hw]
    exact ih (i+1) (by omega) (by omega)
theorem numbered_flat (s:Txt) (hs:s.length≤1048576) (H:Hp):flatC C_tempfile_numbered [.str s] H=some (.bool (numB s),H):=by
 refine flat1 (a':=.str s) rfl (H1:=[]) ?_ rfl
 rw [F_tempfile_numbered_eq]
 unfold F_tempfile_numbered
 simp only [go_sem]
 exact numbered_loop s hs [] [] s.length 0 rfl (by omega)
def tmpB (ow n:Txt):Bool:=decide ((ownS ow).length < n.length) && ((n.take (ownS ow).length == ownS ow) && numB (n.drop (ownS ow).length))
def leftF (ow:Txt) (fs:List Fil):List Txt:=(fs.map Fil.name).filter (tmpB ow)
def leftS (ow:Txt) (s:Sto):List Txt:=if validS ow then leftF ow (listF s.files) else []
theorem leftF_app (ow:Txt) (a b:List Fil):leftF ow (a++b)=leftF ow a++leftF ow b:=by
 unfold leftF;rw [List.map_append,List.filter_append]
theorem leftF_len (ow:Txt) (a:List Fil):(leftF ow a).length≤a.length:=by
 unfold leftF
 exact Nat.le_trans (List.length_filter_le _ _) (by simp)
theorem left_loop {H0 : Hp} {ow : Txt} (ho : ow.length ≤ 1048576) {x : AV} {fs : List Fil} (hx : Sl 3 x (fs.map filAV)) (hl : fs.length ≤ 64) (hn : ∀ f ∈ fs, f.name.length ≤ 1048576) (HB : Hp) : ∀ (r d : List Fil) (x5 : AV) (H : Hp), fs = d ++ r →
    RowN H0.length H 1 x5 ((leftF ow d).map AV.str)→Keep H0.length H0 H→H0.length≤H.length →
    ∃ y H',tempfile_Left_L1 x5 (.str (ownS ow)) x (.int .i64 (fs.length:Int)) (.int .i64 (d.length:Int)) HB H=some (y,H')∧RowN H0.length H' 1 y ((leftF ow fs).map AV.str)∧Keep H0.length H0 H'∧H0.length≤H'.length:=by
 have hol:(ownS ow).length=ow.length+6:=by simp [ownS]
 intro r
 induction r with
 | nil =>
  intro d x5 H hd h5 hK hlen
  rw [List.append_nil] at hd
  subst hd
  have hlt:decide ((fs.length:Int) < (fs.length:Int))=false:=by simp
  rw [tempfile_Left_L1_eq]
  simp only [go_sem,hlt,tempfile_Left_J2_eq]
  exact ⟨_,_,rfl,h5,hK,hlen⟩
 | cons f r ih =>
  intro d x5 H hd h5 hK hlen
  have hlen2:fs.length=d.length+(r.length+1):=by rw [hd];simp
  have hlt:decide ((d.length:Int) < (fs.length:Int))=true:=by simp;omega
  have hw1:IntKind.i64.wrap ((d.length:Int)+1)=((d.length+1:Nat):Int):=by rw [wrap64 (by omega) (by omega)];omega
  have hif:fs[d.length]?=some f:=by rw [hd,List.getElem?_append_right (Nat.le_refl _)];simp
  have hfn:=hn f (List.mem_of_getElem? hif)
  have hidx:aindexS 3 x (.int .i64 (d.length:Int))=some (.vp (filAV f).cells):=Sl.idx hx (c:=filAV f) (by simp [hif])
  have hb1:(H++[AObj.cells [.str [],.int .i64 0,.int .i64 0]])[H.length]?=some (.cells [.str [],.int .i64 0,.int .i64 0]):=by simp
  have hst:astoreU 3 (.ptr H.length 0) (filAV f) (H++[AObj.cells [.str [],.int .i64 0,.int .i64 0]])=some (.tuple [],H++[AObj.cells (filAV f).cells]):=by
   rw [astore_of (v:=filAV f) (sz:=3) hb1 rfl rfl (by simp)]
   simp [splice,filAV,AV.cells]
  have g1:(H++[AObj.cells (filAV f).cells])[H.length]?=some (.cells (filAV f).cells):=by simp
  have m0:=ldn g1 0 (v:=.str f.name) rfl
  have hK2:Keep H0.length H0 (H++[AObj.cells (filAV f).cells]):=hK.trans (Keep.push H hlen _)
  have h52:RowN H0.length (H++[AObj.cells (filAV f).cells]) 1 x5 ((leftF ow d).map AV.str):=by
   rcases h5 with k | ⟨t,e,k1,k2,k3⟩
   ·exact .inl k
   ·exact .inr ⟨t,e,k1,get_push k2 _,k3⟩
  have hdl:(leftF ow d).length≤d.length:=leftF_len _ _
  have hone:(setElems 1 [(0,.str f.name)] [(.str [])]).map (AV.vs 1 .clip)=some (.vs 1 .clip [.str f.name]):=one_str _
  obtain ⟨x',H1,q1,q2,q3,q4,_⟩:=h52.app (by simp;omega) 16 (.vs 1 .clip [.str f.name]) [.str f.name] rfl (by simp;omega)
  have hlf:leftF ow (d++[f])=leftF ow d++(if tmpB ow f.name then [f.name] else []):=by
   rw [leftF_app]
   congr 1
   unfold leftF
   cases hb:tmpB ow f.name <;> simp [hb]
  rw [tempfile_Left_L1_eq]
  have hgt:ibin .gtr (.int .i64 (f.name.length:Int)) (.int .i64 ((ownS ow).length:Int))=some (.bool (decide ((ownS ow).length < f.name.length))):=by
   simp only [go_sem]
   congr 2
   rw [Bool.eq_iff_iff]
   simp
  have al1:alenD .string (.str (ownS ow))=some (.int .i64 ((ownS ow).length:Int)):=rfl
  have al2:alenD .string (.str f.name)=some (.int .i64 (f.name.length:Int)):=rfl
  simp only [go_sem,hlt,tempfile_Left_J3_eq,hidx,load_fil,hst,al1,al2,Nat.zero_add,m0,hgt]
  cases hb1:decide ((ownS ow).length < f.name.length) with
  | false =>
   have hb:tmpB ow f.name=false:=by unfold tmpB;rw [hb1];rfl
   rw [hb,if_neg (by simp),List.append_nil] at hlf
   obtain ⟨y1,H1',p1,p2,p3,p4⟩:=ih (d++[f]) x5 (H++[AObj.cells (filAV f).cells]) (by rw [hd];simp) (by rw [hlf];exact h52) hK2 (by simp;omega)
   rw [List.length_append,List.length_singleton] at p1
   refine ⟨y1,H1',?_,p2,p3,p4⟩
   simp only [go_sem,tempfile_Left_J4_eq,hw1]
   exact p1
  | true =>
   have hlt2:(ownS ow).length < f.name.length:=of_decide_eq_true hb1
   have sl1:asliceS (.str f.name) none (some (.int .i64 ((ownS ow).length:Int))) none=some (.str (f.name.take (ownS ow).length)):=by
    rw [asliceS_hi .i64 (by omega) (by omega),Int.toNat_natCast]
   have sl2:asliceS (.str f.name) (some (.int .i64 ((ownS ow).length:Int))) none none=some (.str (f.name.drop (ownS ow).length)):=by
    rw [asliceS_lo .i64 (by omega) (by omega),Int.toNat_natCast]
   have hse:sbin .eql (.str (f.name.take (ownS ow).length)) (.str (ownS ow))=some (.bool (f.name.take (ownS ow).length == ownS ow)):=rfl
   have hnb:=numbered_flat (f.name.drop (ownS ow).length) (by rw [List.length_drop];omega)
   simp only [go_sem,Nat.zero_add,m0,sl1,hse]
   cases hb2:(f.name.take (ownS ow).length == ownS ow) with
   | false =>
    have hb:tmpB ow f.name=false:=by unfold tmpB;rw [hb1,hb2];rfl
    rw [hb,if_neg (by simp),List.append_nil] at hlf
    obtain ⟨y1,H1',p1,p2,p3,p4⟩:=ih (d++[f]) x5 (H++[AObj.cells (filAV f).cells]) (by rw [hd];simp) (by rw [hlf];exact h52) hK2 (by simp;omega)
    rw [List.length_append,List.length_singleton] at p1
    refine ⟨y1,H1',?_,p2,p3,p4⟩
    simp only [go_sem,tempfile_Left_J4_eq,hw1]
    exact p1
   | true =>
    simp only [go_sem,Nat.zero_add,m0,sl2,hnb]
    cases hb3:numB (f.name.drop (ownS ow).length) with
    | false =>
     have hb:tmpB ow f.name=false:=by unfold tmpB;rw [hb1,hb2,hb3];rfl
     rw [hb,if_neg (by simp),List.append_nil] at hlf
     obtain ⟨y1,H1',p1,p2,p3,p4⟩:=ih (d++[f]) x5 (H++[AObj.cells (filAV f).cells]) (by rw [hd];simp) (by rw [hlf];exact h52) hK2 (by simp;omega)
     rw [List.length_append,List.length_singleton] at p1
     refine ⟨y1,H1',?_,p2,p3,p4⟩
     simp only [go_sem,tempfile_Left_J4_eq,hw1]
     exact p1
    | true =>
     have hb:tmpB ow f.name=true:=by unfold tmpB;rw [hb1,hb2,hb3];rfl
     rw [hb,if_pos rfl] at hlf
     obtain ⟨y1,H1',p1,p2,p3,p4⟩:=ih (d++[f]) x' H1 (by rw [hd];simp) (by rw [hlf,List.map_append];exact q2) (hK2.trans q4) q3
     rw [List.length_append,List.length_singleton] at p1
     refine ⟨y1,H1',?_,p2,p3,p4⟩
     simp only [go_sem,Nat.zero_add,m0,hone,q1,tempfile_Left_J4_eq,hw1]
     exact p1
theorem getF_of_name {l:List Fil} {n:Txt} {f:Fil} (h:getF l n=some f):f ∈ l:=by
 obtain ⟨a,b,e,_⟩:=getF_split h
 rw [e];simp
theorem listF_mem {l:List Fil} {f:Fil} (h:f ∈ listF l):f ∈ l:=by
 unfold listF at h
 obtain ⟨n,_,hn⟩:=List.mem_filterMap.1 h
 exact getF_of_name hn
theorem listF_len (l:List Fil):(listF l).length≤l.length:=by
 unfold listF
 refine Nat.le_trans (List.length_filterMap_le _ _) ?_
 rw [(sortK_perm _).length_eq,List.length_map]
 exact Nat.le_refl _
theorem Left_ro {H:Hp} {t:Nat} {s:Sto} {S:List Nat} (h:StoreAt H t s S) (hk:StoOk s) (ow:Txt) (ho:ow.length≤1048576):∃ x,roC C_tempfile_Left [.ptr t 0,.str ow] H=some (x,H)∧SS x (leftS ow s):=by
 have hv:=ownv_flat ow ho H
 have hnil:ebin (.pointer 68) .eql (.ptr t 0) .nilp=some (.bool false):=rfl
 cases hvs:validS ow with
 | false =>
  rw [hvs] at hv
  refine ⟨.nils,roC_of (H1:=H) (v:=.nils) ?_ (Keep.refl _ _) (Nat.le_refl _) rfl,.inl ⟨rfl,by unfold leftS;rw [hvs];rfl⟩⟩
  rw [F_tempfile_Left_eq]
  unfold F_tempfile_Left
  simp only [go_sem,hnil,hv,Bool.not_false]
 | true =>
  rw [hvs] at hv
  obtain ⟨x,q1,q2⟩:=List_ro h hk
  have hx:alenD (.slice 57) x=some (.int .i64 ((listF s.files).length:Int)):=by
   have:=Sl.len q2 57
   rwa [List.length_map] at this
  have hll:=listF_len s.files
  have hkl:=hk.len
  obtain ⟨y,H1,p1,p2,p3,p4⟩:=left_loop ho q2 (by omega) (fun f hf=>Nat.le_trans (name_len (hk.name f (listF_mem hf))) (by omega)) H (listF s.files) [] .nils H rfl (.inl ⟨rfl,rfl⟩) (Keep.refl _ _) (Nat.le_refl _)
  have hrun:C_tempfile_Left [.ptr t 0,.str ow] H=some (y,H1):=by
   rw [F_tempfile_Left_eq]
   unfold F_tempfile_Left
   simp only [go_sem,hnil,hv,Bool.not_true,tempfile_Left_J1_eq,prefix_run ow ho,q1,hx]
   exact p1
  have hls:leftS ow s=leftF ow (listF s.files):=by unfold leftS;rw [hvs];rfl
  rw [hls]
  rcases p2 with ⟨rfl,hn⟩ | ⟨t',e,rfl,ht,hnt⟩
  ·exact ⟨.nils,roC_of hrun p3 p4 rfl,.inl ⟨rfl,hn⟩⟩
  ·refine ⟨.vs 1 (if t' < H.length then .own t' e else .no) ((leftF ow (listF s.files)).map AV.str),roC_of hrun p3 p4 (by rw [closeV_vs',mapM_id (fun x hx=>by obtain ⟨n,_,rfl⟩:=List.mem_map.1 hx;rfl)]),.inr ⟨_,rfl⟩⟩
end Go.Am
namespace Go.Am
set_option linter.unusedSimpArgs false
set_option linter.unusedVariables false
set_option linter.unusedSectionVars false
set_option maxRecDepth 100000

theorem rdLen_range (a b:UInt8):0≤rdLen a b∧rdLen a b < 65536:=by
 have ha:=a.toNat_lt
 have hb:=b.toNat_lt
 have w1:IntKind.i64.wrap (a.toNat:Int)=(a.toNat:Int):=wrap64 (by omega) (by omega)
 have w2:IntKind.i64.wrap (b.toNat:Int)=(b.toNat:Int):=wrap64 (by omega) (by omega)
 have w3:shl8 (a.toNat:Int)=((a.toNat * 256:Nat):Int):=by
  unfold shl8
  rw [show min 8 IntKind.i64.bits=8 from rfl,show (2:Int) ^ 8=256 from rfl,wrap64 (by omega) (by omega)]
  omega
 unfold rdLen
 rw [w1,w2,w3]
 unfold or64
 have hl:(BitVec.ofInt IntKind.i64.bits ((a.toNat * 256:Nat):Int) ||| BitVec.ofInt IntKind.i64.bits (b.toNat:Int)).toNat < 2 ^ 16:=by
  rw [BitVec.toNat_or]
  refine Nat.or_lt_two_pow ?_ ?_
  ·rw [BitVec.ofInt_natCast,BitVec.toNat_ofNat]
   exact Nat.lt_of_le_of_lt (Nat.mod_le _ _) (by omega)
  ·rw [BitVec.ofInt_natCast,BitVec.toNat_ofNat]
   exact Nat.lt_of_le_of_lt (Nat.mod_le _ _) (by omega)
 rw [wrap64 (by omega) (by omega)]
 omega
def nextV (g:Txt):Txt × Int × Int:=match g with
 | a :: b :: r => if 4096 < rdLen a b then ([], 0, 13) else if (g.length : Int) < rdLen a b + 6 then ([], 0, 14) else
     if ((g.take ((rdLen a b).toNat+6)).drop ((rdLen a b).toNat+2) == sumS (g.take ((rdLen a b).toNat+2)))=true then ((g.take ((rdLen a b).toNat+2)).drop 2,rdLen a b+6,0) else ([],0,13)
 | _=>([],0,14)
theorem next_any (g:Txt) (hg:g.length≤1048576) (H:Hp):flatC C_frame_Next [.str g,.int .i64 0] H=some (.tuple [.str (nextV g).1,.int .i64 (nextV g).2.1,.int .i64 (nextV g).2.2],H):=by
 refine flat2 (a':=.str g) (b':=.int .i64 0) rfl rfl (H1:=[]) ?_ rfl
 have h0:decide ((0:Int) < 0)=false:=rfl
 have h1:decide ((g.length:Int) < 0)=false:=by rw [decide_eq_false_iff_not];omega
 have sl0:asliceS (.str g) (some (.int .i64 0)) none none=some (.str g):=by
  rw [asliceS_lo .i64 (by omega) (by omega)]
  simp
 rw [F_frame_Next_eq]
 unfold F_frame_Next
 match g with
 | []=>simp only [go_sem,h0,h1,frame_Next_J1_eq,sl0,nextV];rfl
 | [a]=>simp only [go_sem,h0,h1,frame_Next_J1_eq,sl0,nextV];rfl
 | a :: b :: r =>
  have h2:decide (((a :: b :: r).length:Int) < 2)=false:=by rw [decide_eq_false_iff_not];simp;omega
  have i0:aindexStr (.str (a :: b :: r)) (.int .i64 0)=some (.int .u8 (a.toNat:Int)):=aindexStr_of (i:=0) rfl
  have i1:aindexStr (.str (a :: b :: r)) (.int .i64 1)=some (.int .u8 (b.toNat:Int)):=aindexStr_of (i:=1) rfl
  have cv:∀ n,cvInt .i64 (.int .u8 n)=some (.int .i64 (IntKind.i64.wrap n)):=fun n=>rfl
  have hsh:∀ a:Int,ibin .shl (.int .i64 a) (.int .u64 8)=some (.int .i64 (shl8 a)):=fun a=>rfl
  have hor:∀ a b:Int,ibin .or (.int .i64 a) (.int .i64 b)=some (.int .i64 (or64 a b)):=fun a b=>by simp [ibin,ashift,intbin,or64]
  have hrl:or64 (shl8 (IntKind.i64.wrap (a.toNat:Int))) (IntKind.i64.wrap (b.toNat:Int))=rdLen a b:=rfl
  obtain ⟨r1,r2⟩:=rdLen_range a b
  unfold nextV
  generalize hn:rdLen a b=z at hrl r1 r2
  generalize hG:a :: b :: r=G at *
  simp only [go_sem,h0,h1,frame_Next_J1_eq,sl0,h2,frame_Next_J2_eq,i0,i1,cv,hsh,hor,hrl]
  subst hG
  dsimp only
  rw [hn]
  generalize hG:a :: b :: r=G at *
  by_cases h3:4096 < z
  ·have h3':decide ((4096:Int) < z)=true:=decide_eq_true h3
   simp only [h3',go_sem,if_pos h3]
  ·have h3':decide ((4096:Int) < z)=false:=decide_eq_false h3
   have w6:IntKind.i64.wrap (z+6)=z+6:=wrap64 (by omega) (by omega)
   have w2:IntKind.i64.wrap (z+2)=z+2:=wrap64 (by omega) (by omega)
   have w0:IntKind.i64.wrap (0+z)=z:=by rw [wrap64 (by omega) (by omega)];omega
   simp only [h3',go_sem,if_neg h3,frame_Next_J3_eq,w6]
   by_cases h4:(G.length:Int) < z+6
   ·have h4':decide ((G.length:Int) < z+6)=true:=decide_eq_true h4
    simp only [h4',go_sem,if_pos h4]
   ·have h4':decide ((G.length:Int) < z+6)=false:=decide_eq_false h4
    have t6:(z+6).toNat=z.toNat+6:=by omega
    have t2:(z+2).toNat=z.toNat+2:=by omega
    have sl1:asliceS (.str G) (some (.int .i64 (z+2))) (some (.int .i64 (z+6))) none=some (.str ((G.take (z.toNat+6)).drop (z.toNat+2))):=by
     rw [asliceS_lh .i64 .i64 (by omega) (by omega) (by omega),t6,t2]
    have sl2:asliceS (.str G) none (some (.int .i64 (z+2))) none=some (.str (G.take (z.toNat+2))):=by
     rw [asliceS_hi .i64 (by omega) (by omega),t2]
    have sl3:asliceS (.str G) (some (.int .i64 2)) (some (.int .i64 (z+2))) none=some (.str ((G.take (z.toNat+2)).drop 2)):=by
     rw [asliceS_lh .i64 .i64 (by omega) (by omega) (by omega),t2]
     rfl
    have hsm:=sum_flat (G.take (z.toNat+2)) (by rw [List.length_take];omega)
    simp only [h4',go_sem,if_neg h4,frame_Next_J4_eq,w2,w6,sl1,sl2,hsm]
    cases hq:(G.take (z.toNat+6)).drop (z.toNat+2) == sumS (G.take (z.toNat+2)) with
    | true=>simp only [go_sem,Bool.not_true,frame_Next_J5_eq,w2,sl3,w0,w6,if_true]
    | false=>simp only [go_sem,Bool.not_false,Bool.false_eq_true,if_false]
def tmRead (tm:Tmp) (s:Sto) (n:Txt) (i:Int):Txt × Int × Int :=
 if tmFind tm n ≠ 0 then ([],0,tmFind tm n) else if (s.read n i 4102).2 ≠ 0 then ([],0,(s.read n i 4102).2) else
  if (s.read n i 4102).1=[] then ([],0,5) else if (nextV (s.read n i 4102).1).2.2 ≠ 0 then ([],0,(nextV (s.read n i 4102).1).2.2) else ((nextV (s.read n i 4102).1).1,i+(nextV (s.read n i 4102).1).2.1,0)
theorem nextV_range (g:Txt):0≤(nextV g).2.1∧(nextV g).2.1≤4102:=by
 match g with
 | []=>exact ⟨by decide,by decide⟩
 | [a]=>exact ⟨by show (0:Int)≤0;omega,by show (0:Int)≤4102;omega⟩
 | a :: b :: r =>
  have:=rdLen_range a b
  unfold nextV
  dsimp only
  split
  ·exact ⟨by show (0:Int)≤0;omega,by show (0:Int)≤4102;omega⟩
  ·split
   ·exact ⟨by show (0:Int)≤0;omega,by show (0:Int)≤4102;omega⟩
   ·split
    ·exact ⟨by show (0:Int)≤rdLen a b+6;omega,by show rdLen a b+6≤4102;omega⟩
    ·exact ⟨by show (0:Int)≤0;omega,by show (0:Int)≤4102;omega⟩
theorem TRead_any {H : Hp} {o t : Nat} {tm : Tmp} {s : Sto} {A : List Nat} (h : SysAt H o t tm s A) (hm : TmpOk tm) (hk : StoOk s) (n : Txt) (i : Int) (hi : -9223372036854775808 ≤ i ∧ i ≤ 9223372036854775807) :
    ∃ H',C_tempfile_Temps_Read [.ptr o 0,.str n,.int .i64 i] H=some (.tuple [.str (tmRead tm s n i).1,.int .i64 (tmRead tm s n i).2.1,.int .i64 (tmRead tm s n i).2.2],H')∧SysAt H' o t tm (if tmFind tm n=0 then s.tick else s) A∧Stp A H H':=by
 by_cases hf:tmFind tm n=0
 ·rw [if_pos hf]
  obtain ⟨B,S,h1,h2,h3,rfl⟩:=h
  have hB:=h1
  obtain ⟨ms,clk,nx,sl,h1,rfl⟩:=h1
  have hfr:=find_run h1 hm n
  have l0:=ldn h1.cells 0 (v:=.ptr t 0) rfl
  have e0:(tmFind tm n != 0)=false:=by rw [hf];rfl
  obtain ⟨H1,p1,p2⟩:=Read_run h2 hk n i 4102 hi
  have hri:(s.read n i 4102).2=0→0≤i∧i≤262144:=fun h0=>by
   unfold Sto.read at h0
   split at h0
   ·cases h0
   ·cases hg:getF s.files n with
    | none=>rw [hg] at h0;cases h0
    | some f =>
     rw [hg] at h0
     dsimp only at h0
     split at h0
     ·cases h0
     ·rename_i hh
      obtain ⟨a,b,e,_⟩:=getF_split hg
      have h4:=hk.used
      have h5:=hk.limit
      rw [e,usedL_mid] at h4
      omega
  have hrl:(s.read n i 4102).1.length≤4102:=by
   unfold Sto.read
   split
   ·exact Nat.zero_le _
   ·cases getF s.files n with
    | none=>exact Nat.zero_le _
    | some f =>
     dsimp only
     split
     ·exact Nat.zero_le _
     ·show (List.take (4102:Int).toNat _).length≤4102
      rw [List.length_take]
      exact Nat.min_le_left _ _
  unfold tmRead
  rw [if_neg (by simpa using hf)]
  refine ⟨H1,?_,SysAt.same hB h3 p2,p2.stp.mono fun a ha=>by simp [ha]⟩
  rw [F_tempfile_Temps_Read_eq]
  unfold F_tempfile_Temps_Read
  generalize hR:s.read n i 4102=R at p1 hri hrl
  obtain ⟨g,e⟩:=R
  dsimp only at p1 hri hrl ⊢
  simp only [hfr,go_sem,e0,Nat.zero_add,tempfile_Temps_Read_J1_eq,l0,p1,List.getElem?_cons_zero,List.getElem?_cons_succ]
  by_cases he:e=0
  ·subst he
   have ez:((0:Int) != 0)=false:=rfl
   simp only [ez,go_sem,tempfile_Temps_Read_J2_eq]
   rw [if_neg (by simp)]
   by_cases hg0:g=[]
   ·subst hg0
    have:(([]:Txt) == [])=true:=rfl
    simp only [this,go_sem,if_true]
   ·have hem:(g == ([]:Txt))=false:=by simpa using hg0
    have hnx:=next_any g (by omega) H1
    have hnr:=nextV_range g
    have hi2:=hri rfl
    rw [if_neg hg0]
    by_cases hn:(nextV g).2.2=0
    ·have hw:IntKind.i64.wrap (i+(nextV g).2.1)=i+(nextV g).2.1:=wrap64 (by omega) (by omega)
     have hnz:((nextV g).2.2 != 0)=false:=by rw [hn];rfl
     rw [if_neg (by simpa using hn)]
     simp only [hem,go_sem,tempfile_Temps_Read_J3_eq,hnx,List.getElem?_cons_zero,List.getElem?_cons_succ,hnz,tempfile_Temps_Read_J4_eq,hw]
    ·have hnz:((nextV g).2.2 != 0)=true:=by simpa using hn
     rw [if_pos hn]
     simp only [hem,go_sem,tempfile_Temps_Read_J3_eq,hnx,List.getElem?_cons_zero,List.getElem?_cons_succ,hnz]
  ·have ez:(e != 0)=true:=by simpa using he
   rw [if_pos he]
   simp only [ez,go_sem]
 ·rw [if_neg hf]
  unfold tmRead
  rw [if_pos hf]
  exact ⟨H,TRead_err h hm hk n hf i,h,Stp.refl _ _⟩
end Go.Am
