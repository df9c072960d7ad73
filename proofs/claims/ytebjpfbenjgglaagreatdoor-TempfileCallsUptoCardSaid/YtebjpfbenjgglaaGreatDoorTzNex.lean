/-
  The checksum of the document, bit by bit, is that of the program, by half bytes: plain law.
-/
import Derived.Test.YtebjpfbenjgglaaGreatDoorTzAx
namespace Go.Am
set_option linter.unusedSimpArgs false
set_option linter.unusedVariables false
set_option linter.unusedSectionVars false
set_option maxRecDepth 100000

def bstepN (c:Nat):Nat:=if c % 2=1 then (c / 2) ^^^ 3988292384 else c / 2
theorem xor_half (a b:Nat):(a ^^^ b) / 2=a / 2 ^^^ b / 2:=Nat.xor_div_two
theorem xor_mod2 (a b:Nat):(a ^^^ b) % 2=(a % 2+b % 2) % 2:=by
 have h:=Nat.xor_mod_two_eq_one (a:=a) (b:=b)
 have:=Nat.mod_two_eq_zero_or_one (a ^^^ b)
 have:=Nat.mod_two_eq_zero_or_one a
 have:=Nat.mod_two_eq_zero_or_one b
 omega
theorem bstepN_xor (a b:Nat):bstepN (a ^^^ b)=bstepN a ^^^ bstepN b:=by
 unfold bstepN
 rw [xor_half,xor_mod2]
 rcases Nat.mod_two_eq_zero_or_one a with h1 | h1 <;> rcases Nat.mod_two_eq_zero_or_one b with h2 | h2 <;> simp only [h1,h2]
 ·rfl
 ·show (a / 2 ^^^ b / 2) ^^^ 3988292384=a / 2 ^^^ (b / 2 ^^^ 3988292384)
  rw [Nat.xor_assoc]
 ·show (a / 2 ^^^ b / 2) ^^^ 3988292384=(a / 2 ^^^ 3988292384) ^^^ b / 2
  rw [Nat.xor_assoc,Nat.xor_assoc,Nat.xor_comm 3988292384]
 ·show (a / 2 ^^^ b / 2)=(a / 2 ^^^ 3988292384) ^^^ (b / 2 ^^^ 3988292384)
  rw [Nat.xor_assoc,Nat.xor_comm (b / 2),← Nat.xor_assoc 3988292384,Nat.xor_self,Nat.zero_xor]
theorem bstepN_two (z:Nat):bstepN (2 * z)=z:=by
 unfold bstepN
 rw [if_neg (by omega)]
 omega
theorem split16 (c:Nat):c=(16 * (c / 16)) ^^^ (c % 16):=by
 apply Nat.eq_of_testBit_eq
 intro i
 have:c=2 ^ 4 * (c / 16)+c % 16:=by omega
 conv=>lhs;rw [this]
 rw [Nat.testBit_two_pow_mul_add _ (by omega),Nat.testBit_xor,show 16 * (c / 16)=2 ^ 4 * (c / 16) by omega,Nat.testBit_two_pow_mul]
 by_cases h:i < 4
 ·simp [h,Nat.not_le.2 h]
 ·have h16:2 ^ 4≤2 ^ i:=Nat.pow_le_pow_right (by decide) (Nat.not_lt.1 h)
  have:(c % 16).testBit i=false:=Nat.testBit_lt_two_pow (Nat.lt_of_lt_of_le (Nat.mod_lt c (by decide)) h16)
  simp [h,Nat.not_lt.1 h,this]
def nibN:Nat→Nat:=fun c=>bstepN (bstepN (bstepN (bstepN c)))
theorem nibN_eq (c:Nat):nibN c=(c / 16) ^^^ nibN (c % 16):=by
 conv=>lhs;rw [split16 c]
 unfold nibN
 rw [bstepN_xor,bstepN_xor,bstepN_xor,bstepN_xor]
 congr 1
 rw [show 16 * (c / 16)=2 * (2 * (2 * (2 * (c / 16)))) by omega,bstepN_two,bstepN_two,bstepN_two,bstepN_two]
theorem bstepN_lt {c:Nat} (h:c < 4294967296):bstepN c < 4294967296:=by
 unfold bstepN
 split
 ·exact Nat.xor_lt_two_pow (n:=32) (by omega) (by omega)
 ·omega
theorem xor_all {c:Nat} (h:c < 4294967296):4294967295 ^^^ c=4294967295 - c:=by
 have h1:=BitVec.toNat_not (x:=BitVec.ofNat 32 c)
 rw [← BitVec.allOnes_xor] at h1
 rw [BitVec.toNat_xor,BitVec.toNat_ofNat,Nat.mod_eq_of_lt (by omega)] at h1
 exact h1
theorem nibN_lt {c:Nat} (h:c < 4294967296):nibN c < 4294967296:=bstepN_lt (bstepN_lt (bstepN_lt (bstepN_lt h)))
theorem wrap32 {n:Nat} (h:n < 4294967296):IntKind.u32.wrap (n:Int)=(n:Int):=by
 have e1:(2 ^ IntKind.u32.bits:Int)=4294967296:=by decide
 have e2:IntKind.u32.signed=false:=rfl
 unfold IntKind.wrap
 simp only [e1,e2,Bool.false_and,Bool.false_eq_true,if_false]
 omega
theorem bv32 {n:Nat} (h:n < 4294967296):(BitVec.ofInt IntKind.u32.bits (n:Int)).toNat=n:=by
 rw [BitVec.ofInt_natCast,BitVec.toNat_ofNat]
 exact Nat.mod_eq_of_lt h
theorem xor32_nat {m n:Nat} (hm:m < 4294967296) (hn:n < 4294967296):xor32 (m:Int) (n:Int)=((m ^^^ n:Nat):Int):=by
 unfold xor32
 rw [BitVec.toNat_xor,bv32 hm,bv32 hn]
 exact wrap32 (Nat.xor_lt_two_pow (n:=32) hm hn)
theorem and32_nat {m:Nat} (hm:m < 4294967296):and32 (m:Int) 15=((m % 16:Nat):Int):=by
 unfold and32
 have h15:(BitVec.ofInt IntKind.u32.bits 15).toNat=15:=by decide
 rw [BitVec.toNat_and,bv32 hm,h15,show (15:Nat)=2 ^ 4 - 1 from rfl,Nat.and_two_pow_sub_one_eq_mod]
 exact wrap32 (by omega)
theorem shr32_nat (m k:Nat) (hk:k≤32):shrK .u32 k (m:Int)=((m / 2 ^ k:Nat):Int):=by
 unfold shrK
 have:min k IntKind.u32.bits=k:=Nat.min_eq_left hk
 rw [this,show (2:Int) ^ k=((2 ^ k:Nat):Int) by simp]
 exact Int.fdiv_eq_ediv_of_nonneg _ (Int.natCast_nonneg _)
theorem tab_nib:((List.range 16).all fun r=>tabC (r:Int) == ((nibN r:Nat):Int))=true:=by kernel_rfl
theorem halfC_nat {c:Nat} (h:c < 4294967296):halfC (c:Int)=((nibN c:Nat):Int):=by
 unfold halfC
 rw [and32_nat h,shr32_nat c 4 (by omega)]
 have ht:=List.all_eq_true.1 tab_nib (c % 16) (List.mem_range.2 (Nat.mod_lt _ (by omega)))
 rw [beq_iff_eq] at ht
 have hl:nibN (c % 16) < 4294967296:=nibN_lt (by omega)
 rw [ht,xor32_nat hl (by omega),nibN_eq c,Nat.xor_comm]
def crcN (s:Txt):Nat:=s.foldl (fun c b=>nibN (nibN (c ^^^ b.toNat))) 4294967295
theorem crcN_app (s:Txt) (b:UInt8):crcN (s++[b])=nibN (nibN (crcN s ^^^ b.toNat)):=by simp [crcN]
theorem step_lt {c:Nat} (h:c < 4294967296) (b:UInt8):c ^^^ b.toNat < 4294967296:=Nat.xor_lt_two_pow (n:=32) h (by have:=b.toNat_lt;omega)
theorem crc_both:∀ (r:Txt) (c:Nat),c < 4294967296→r.foldl stepC (c:Int)=((r.foldl (fun c b=>nibN (nibN (c ^^^ b.toNat))) c:Nat):Int)∧r.foldl (fun c b=>nibN (nibN (c ^^^ b.toNat))) c < 4294967296:=by
 intro r
 induction r with
 | nil=>intro c h;exact ⟨rfl,h⟩
 | cons b r ih =>
  intro c h
  have hb:=b.toNat_lt
  have h1:=step_lt h b
  have hs:stepC (c:Int) b=((nibN (nibN (c ^^^ b.toNat)):Nat):Int):=by
   unfold stepC
   rw [wrap32 (by omega),xor32_nat h (by omega),halfC_nat h1,halfC_nat (nibN_lt h1)]
  rw [List.foldl_cons,List.foldl_cons,hs]
  exact ih _ (nibN_lt (nibN_lt h1))
theorem crcL_nat (s:Txt):crcL s=((crcN s:Nat):Int)∧crcN s < 4294967296:=crc_both s 4294967295 (by omega)
theorem crcS_nat (s:Txt):crcS s=((4294967295 - crcN s:Nat):Int):=by
 obtain ⟨h1,h2⟩:=crcL_nat s
 unfold crcS
 have hm:IntKind.u32.max=((4294967295:Nat):Int):=by decide
 rw [h1,hm,xor32_nat (by omega) h2,xor_all h2]
def byN (n:Nat):UInt8:=UInt8.ofNat (n % 256)
theorem byteOf_nat (n:Nat):byteOf (n:Int)=byN n:=by
 have e1:(2 ^ IntKind.u8.bits:Int)=256:=by decide
 have e2:IntKind.u8.signed=false:=rfl
 unfold byteOf byN IntKind.wrap
 simp only [e1,e2,Bool.false_and,Bool.false_eq_true,if_false]
 congr 1
theorem sumS_nat (s:Txt):sumS s=[byN (4294967295 - crcN s),byN ((4294967295 - crcN s) / 256),byN ((4294967295 - crcN s) / 256 / 256),byN ((4294967295 - crcN s) / 256 / 256 / 256)]:=by
 unfold sumS
 rw [crcS_nat,shr32_nat _ 8 (by omega),shr32_nat _ 16 (by omega),shr32_nat _ 24 (by omega),byteOf_nat,byteOf_nat,byteOf_nat,byteOf_nat,Nat.div_div_eq_div_mul,Nat.div_div_eq_div_mul]
end Go.Am
namespace Go.Am
set_option linter.unusedSimpArgs false
set_option linter.unusedVariables false
set_option linter.unusedSectionVars false
set_option maxRecDepth 100000

theorem TxAt.cut {H : Hp} {x : AV} {l : Txt} (h : TxAt H x l) {n : Nat} (hn : n ≤ l.length) :
    ∃ x',asliceV 1 x none (some (.int .i64 (n:Int))) (some (.int .i64 (n:Int)))=some x'∧tokA x'=[]∧(∀ H',TxAt H' x' (l.take n))∧x'.cells=[x']∧x'.known=true:=by
 have hb:abounds l.length l.length none (some (.int .i64 (n:Int))) (some (.int .i64 (n:Int)))=some (0,n,n):=by
  rw [abounds_hm (len:=l.length) (cap:=l.length) .i64 .i64 (by omega) (by omega) (by omega)]
  simp
 have key:∀ t,asliceV 1 (.vs 1 t (l.map bv)) none (some (.int .i64 (n:Int))) (some (.int .i64 (n:Int)))=some (.vs 1 .clip ((l.take n).map bv)):=fun t=>by
  unfold asliceV
  dsimp only
  rw [if_pos rfl,List.length_map,hb]
  simp
 rcases h with ⟨rfl,rfl⟩ | ⟨t,e,rfl,ht⟩ | rfl
 ·have:n=0:=by simpa using hn
  subst this
  exact ⟨.nils,by unfold asliceV;dsimp only;rw [show abounds 0 0 none (some (.int .i64 ((0:Nat):Int))) (some (.int .i64 ((0:Nat):Int)))=some (0,0,0) from by simpa using hb],rfl,fun _=>.inl ⟨rfl,rfl⟩,rfl,rfl⟩
 ·exact ⟨_,key _,rfl,fun _=>.inr (.inr rfl),rfl,rfl⟩
 ·exact ⟨_,key _,rfl,fun _=>.inr (.inr rfl),rfl,rfl⟩
theorem rem8 (i:Nat):ibin .rem (.int .i64 (i:Int)) (.int .i64 8)=some (.int .i64 ((i % 8:Nat):Int)):=by
 unfold ibin ashift
 simp only [if_true,intbin]
 rw [if_neg (by omega)]
 congr 2
theorem StoRes.trans {H H1 H2:Hp} {o:Nat} {s1 s2:Sto} {A A1 A2:List Nat} (h:StoRes H H1 o s1 A A1) (k:StoRes H1 H2 o s2 A1 A2):StoRes H H2 o s2 A A2 :=
 ⟨k.at',h.stp.trans k.stp (fun _ h=>h) (fun a ha=>h.own a ha),fun a ha=>(k.own a ha).elim (h.own a) fun hh=>.inr (Nat.le_trans h.stp.len hh)⟩
end Go.Am
namespace Go.Am
set_option linter.unusedSimpArgs false
set_option linter.unusedVariables false
set_option linter.unusedSectionVars false
set_option maxRecDepth 100000

def moreN (k i:Nat):Nat:=k / 2 ^ (8 * (i % 8)) % 256
def cutF (k i:Nat) (f:Fil):Fil:=⟨f.name,f.text.take (f.syn+min (moreN k i) (f.text.length - f.syn)),f.syn+min (moreN k i) (f.text.length - f.syn)⟩
def cutL (k:Nat):Nat→List Txt→List Fil→List Fil
 | _,[],l=>l
 | i,n :: r,l=>cutL k (i+1) r (updF l n (cutF k i))
def Sto.restart (s:Sto) (k:Nat):Sto:={ s with crashed:=false,count:=0,files:=cutL k 0 (sortK (s.files.map Fil.name)) s.files }
theorem updF_names (l:List Fil) (n:Txt) (u:Fil→Fil) (h:∀ f,(u f).name=f.name):(updF l n u).map Fil.name=l.map Fil.name:=by
 induction l with
 | nil=>rfl
 | cons f l ih =>
  rw [updF]
  split
  ·simp [h]
  ·simp [ih]
theorem updF_used (l:List Fil) (n:Txt) (u:Fil→Fil) (h:∀ f,(u f).text.length≤f.text.length):usedL (updF l n u)≤usedL l:=by
 induction l with
 | nil=>exact Nat.le_refl _
 | cons f l ih =>
  rw [updF]
  split
  ·have:=h f;simp only [usedL];omega
  ·simp only [usedL];omega
theorem updF_all {P:Fil→Prop} (l:List Fil) (n:Txt) (u:Fil→Fil) (hl:∀ f ∈ l,P f) (h:∀ f,P f→P (u f)):∀ f ∈ updF l n u,P f:=by
 induction l with
 | nil=>intro f hf;cases hf
 | cons x l ih =>
  rw [updF]
  split
  ·intro f hf
   rcases List.mem_cons.1 hf with rfl | hf
   ·exact h x (hl x (by simp))
   ·exact hl f (by simp [hf])
  ·intro f hf
   rcases List.mem_cons.1 hf with rfl | hf
   ·exact hl _ (by simp)
   ·exact ih (fun g hg=>hl g (by simp [hg])) f hf
theorem cutF_le (k i:Nat) (f:Fil):(cutF k i f).text.length≤f.text.length:=by simp [cutF];omega
theorem cut_ok {s:Sto} (hk:StoOk s) (k i:Nat) (n:Txt):StoOk { s with files:=updF s.files n (cutF k i) }:=by
 have h1:=updF_names s.files n (cutF k i) fun _=>rfl
 have h2:=updF_used s.files n (cutF k i) (cutF_le k i)
 have h3:=hk.used
 have h4:=hk.len
 refine ⟨hk.limit,Nat.le_trans h2 h3,hk.peak,updF_all s.files n _ hk.name fun f h=>h,by show ((updF s.files n (cutF k i)).map Fil.name).Nodup;rw [h1];exact hk.nd,updF_all (P:=fun f=>f.syn≤f.text.length) s.files n _ hk.syn fun f h=>?_,?_,hk.count⟩
 ·show f.syn+min (moreN k i) (f.text.length - f.syn)≤(f.text.take (f.syn+min (moreN k i) (f.text.length - f.syn))).length
  rw [List.length_take]
  omega
 ·show (updF s.files n (cutF k i)).length≤64
  have:=congrArg List.length h1
  rw [List.length_map,List.length_map] at this
  omega
theorem restartk_step {H : Hp} {o : Nat} {s : Sto} {A : List Nat} (h : StoreAt H o s A) (hk : StoOk s) (k : Nat) {x : AV} {ns : List Txt} (hx : SS x ns) {i : Nat} {n : Txt} (hi : ns[i]? = some n) (hi64 : i ≤ 64) {f : Fil} (hn : getF s.files n = some f) (nl : AV) (H0 : Hp) :
    ∃ H' A',store_Store_Restart_J2 (.ptr o 0) (.int .u64 (k:Int)) x nl (.int .i64 (i:Int)) (.bool true) H0 H=store_Store_Restart_J3 (.ptr o 0) (.int .u64 (k:Int)) x nl (.int .i64 (i:Int)) H0 H'∧StoRes H H' o { s with files:=updF s.files n (cutF k i) } A A':=by
 obtain ⟨m,clk,ds,h,rfl⟩:=h
 have hidx:=SS.idx hx hi
 have l3:=ldn h.cells 3 (v:=.map m) rfl
 rcases h.look n with ⟨k,_⟩ | ⟨a,d,b,rfl,c3,c4,c5,c6⟩
 ·rw [hn] at k;cases k
 obtain ⟨k1,hd,k3,k4⟩:=h.mid
 have hdm:d.fil ∈ s.files:=by rw [← h.files];simp
 have hsd:=hk.syn _ hdm
 have hused:=hk.used
 have hlim:=hk.limit
 have hle:d.fil.text.length≤usedL s.files:=by rw [← h.files,List.map_append,List.map_cons,usedL_mid];omega
 have hfu:updF s.files n (cutF k i)=a.map FD.fil++cutF k i d.fil :: b.map FD.fil:=by
  rw [← h.files]
  exact updF_map a d b n (cutF k i) c3 c4
 generalize hz:d.fil.syn+min (moreN k i) (d.fil.text.length - d.fil.syn)=z
 have hzl:z≤d.fil.text.length:=by omega
 have hcut:cutF k i d.fil=⟨d.fil.name,d.fil.text.take z,z⟩:=by unfold cutF;rw [hz]
 have hnu:usedL (a.map FD.fil++cutF k i d.fil :: b.map FD.fil)=usedL s.files - (d.fil.text.length - z):=by
  have hf:usedL s.files=usedL (a.map FD.fil++d.fil :: b.map FD.fil):=by rw [← h.files,List.map_append,List.map_cons]
  rw [hf,usedL_mid,usedL_mid,hcut]
  show _+((d.fil.text.take z).length+_)=_
  rw [List.length_take]
  omega
 have m0:=ldn hd.cells 0 (v:=d.tx) rfl
 have m1:=ldn hd.cells 1 (v:=.int .i64 (d.fil.syn:Int)) rfl
 have hlen:=hd.text.len 5
 have hrem:ibin .rem (.int .i64 (i:Int)) (.int .i64 8)=some (.int .i64 ((i % 8:Nat):Int)):=rem8 i
 have hmul:ibin .mul (.int .i64 8) (.int .i64 ((i % 8:Nat):Int))=some (.int .i64 ((8 * (i % 8):Nat):Int)):=by
  have:IntKind.i64.wrap (8 * ((i % 8:Nat):Int))=((8 * (i % 8):Nat):Int):=by rw [wrap64 (by omega) (by omega)];omega
  simp only [go_sem,this]
 have hb:min (8 * (i % 8)) IntKind.u64.bits=8 * (i % 8):=Nat.min_eq_left (by show 8 * (i % 8)≤64;omega)
 have hshr:ibin .shr (.int .u64 (k:Int)) (.int .i64 ((8 * (i % 8):Nat):Int))=some (.int .u64 ((k / 2 ^ (8 * (i % 8)):Nat):Int)):=by
  rw [ibin_shr]
  unfold shrK
  rw [hb,Int.fdiv_eq_ediv_of_nonneg _ (Int.pow_nonneg (by decide))]
  have:(2:Int) ^ (8 * (i % 8))=((2 ^ (8 * (i % 8)):Nat):Int):=by simp
  rw [this,← Int.natCast_ediv]
 have hrem2:ibin .rem (.int .u64 ((k / 2 ^ (8 * (i % 8)):Nat):Int)) (.int .u64 256)=some (.int .u64 ((moreN k i:Nat):Int)):=by
  unfold ibin ashift
  simp only [if_true,intbin]
  rw [if_neg (by omega)]
  congr 2
 have hmr:moreN k i < 256:=Nat.mod_lt _ (by decide)
 have hcv:cvInt .i64 (.int .u64 ((moreN k i:Nat):Int))=some (.int .i64 ((moreN k i:Nat):Int)):=by
  unfold cvInt
  dsimp only
  rw [wrap64 (by omega) (by omega)]
 have hs0:IntKind.i64.wrap ((d.fil.text.length:Int) - (d.fil.syn:Int))=((d.fil.text.length - d.fil.syn:Nat):Int):=by rw [wrap64 (by omega) (by omega)];omega
 have hmin:amin2 (.int .i64 ((moreN k i:Nat):Int)) (.int .i64 ((d.fil.text.length - d.fil.syn:Nat):Int))=some (.int .i64 ((min (moreN k i) (d.fil.text.length - d.fil.syn):Nat):Int)):=by
  simp [amin2];omega
 have ha0:IntKind.i64.wrap ((d.fil.syn:Int)+((min (moreN k i) (d.fil.text.length - d.fil.syn):Nat):Int))=(z:Int):=by rw [wrap64 (by omega) (by omega)];omega
 have hs1:IntKind.i64.wrap ((d.fil.text.length:Int) - (z:Int))=((d.fil.text.length - z:Nat):Int):=by rw [wrap64 (by omega) (by omega)];omega
 have hcl:H[o]?=some (.cells (stC m s)):=h.cells
 have l1:=ldn hcl 1 (v:=.int .i64 (usedL s.files:Int)) rfl
 have hu0:IntKind.i64.wrap ((usedL s.files:Int) - ((d.fil.text.length - z:Nat):Int))=((usedL s.files - (d.fil.text.length - z):Nat):Int):=by rw [wrap64 (by omega) (by omega)];omega
 have s1:=stn hcl 1 (v:=.int .i64 ((usedL s.files - (d.fil.text.length - z):Nat):Int)) rfl rfl (by simp [stC])
 have g1:=get_set_eq (AObj.cells (List.set (stC m s) 1 (.int .i64 ((usedL s.files - (d.fil.text.length - z):Nat):Int)))) hcl
 have hko:=k3 d.f (by simp [FD.own])
 have hd1:=get_set_ne (AObj.cells (List.set (stC m s) 1 (.int .i64 ((usedL s.files - (d.fil.text.length - z):Nat):Int)))) (fun e=>hko.1 e.symm) hd.cells
 obtain ⟨x',p1,p2,p3,p4,p5⟩:=hd.text.cut (n:=z) hzl
 have hSa:Stp [o] H (H.set o (.cells (List.set (stC m s) 1 (.int .i64 ((usedL s.files - (d.fil.text.length - z):Nat):Int))))):=Stp.set _ _ (by simp)
 generalize hH1:H.set o (.cells (List.set (stC m s) 1 (.int .i64 ((usedL s.files - (d.fil.text.length - z):Nat):Int))))=H1 at s1 g1 hd1 hSa
 have m0':=ldn hd1 0 (v:=d.tx) rfl
 have s2:=stn hd1 0 (v:=x') p4 p5 (by simp)
 have g2:=get_set_eq (AObj.cells (List.set [d.tx,.int .i64 (d.fil.syn:Int)] 0 x')) hd1
 have s3:=stn g2 1 (v:=.int .i64 (z:Int)) rfl rfl (by simp)
 have g3:=get_set_eq (AObj.cells (List.set (List.set [d.tx,.int .i64 (d.fil.syn:Int)] 0 x') 1 (.int .i64 (z:Int)))) g2
 generalize hH2:H1.set d.f (.cells (List.set [d.tx,.int .i64 (d.fil.syn:Int)] 0 x'))=H2 at s2 g2 s3 g3
 generalize hH3:H2.set d.f (.cells (List.set (List.set [d.tx,.int .i64 (d.fil.syn:Int)] 0 x') 1 (.int .i64 (z:Int))))=H3 at s3 g3
 have hSb:Stp [d.f] H1 H3:=by
  rw [← hH3,← hH2]
  exact (Stp.set _ _ (by simp)).trans (Stp.set _ _ (by simp)) (fun _ h=>h) fun _ h=>.inl h
 have hS:Stp (o :: d.own) H H3:=hSa.trans hSb (fun a ha=>by simp [List.mem_singleton.1 ha]) fun a ha=>.inl (by simp [FD.own,List.mem_singleton.1 ha])
 have hom:=h.om
 have hto:({ d with fil:=cutF k i d.fil,tx:=x' }:FD).own=[d.f]:=by simp [FD.own,p2]
 have hat:=h.upd (d':={ d with fil:=cutF k i d.fil,tx:=x' }) (s':={ s with files:=updF s.files n (cutF k i) }) (H':=H3) (by rw [hSb.get g1 (by simpa using fun e=>hko.1 e.symm)];show some (AObj.cells [_,_,_,_,_,_])=some (AObj.cells [_,.int .i64 ((usedL (updF s.files n (cutF k i)):Nat):Int),_,_,_,_]);rw [hfu,hnu]) (by rw [hSb.at' m (lt_of_get (hSa.get h.map (by simpa using Ne.symm hom))) (by simpa using fun e=>hko.2 e.symm),hSa.get h.map (by simpa using Ne.symm hom),h.map]) rfl hfu
  ⟨by rw [g3,hcut];rfl,by have:=p3 H3;rw [hcut];exact this⟩ hS (by rw [hto];simp) (fun y hy=>.inl (by rw [hto] at hy;simp [FD.own,List.mem_singleton.1 hy]))
 refine ⟨H3,_,?_,⟨⟨m,clk,_,hat,rfl⟩,hS.mono fun a ha=>?_,fun y hy=>?_⟩⟩
 ·rw [store_Store_Restart_J2_eq]
  simp only [go_sem,hidx,aload_vpc,Nat.zero_add,l3,c6,hrem,hmul,hshr,hrem2,hcv,m1,m0,hlen,hs0,hmin,ha0,hs1,l1,hu0,s1,m0',p1,s2,s3]
 ·rcases List.mem_cons.1 ha with e | ha
  ·simp [e]
  ·rw [List.mem_cons,List.mem_cons,List.flatMap_append,List.flatMap_cons]
   exact .inr (.inr (by simp [ha]))
 ·rw [List.mem_cons,List.mem_cons,List.flatMap_append,List.flatMap_cons,hto] at hy
  refine .inl ?_
  rw [List.mem_cons,List.mem_cons,List.flatMap_append,List.flatMap_cons]
  rcases hy with e | e | hy
  ·exact .inl e
  ·exact .inr (.inl e)
  ·refine .inr (.inr ?_)
   simp only [List.mem_append] at hy ⊢
   rcases hy with k | k | k
   ·exact .inl k
   ·exact .inr (.inl (by simp [FD.own,List.mem_singleton.1 k]))
   ·exact .inr (.inr k)
theorem restartk_loop {o : Nat} (k : Nat) {x : AV} {ns : List Txt} (hx : SS x ns) (hl : ns.length ≤ 64) (H0 : Hp) : ∀ (r d : List Txt) (H : Hp) (A : List Nat) (s : Sto), ns = d ++ r → StoreAt H o s A → StoOk s → (∀ n ∈ ns, ∃ f, getF s.files n = some f) →
    ∃ H' A',store_Store_Restart_L1 (.ptr o 0) (.int .u64 (k:Int)) x (.int .i64 (ns.length:Int)) (.int .i64 (d.length:Int)) H0 H=some (.tuple [],H')∧StoRes H H' o { s with files:=cutL k d.length r s.files } A A'∧StoOk { s with files:=cutL k d.length r s.files }:=by
 intro r
 induction r with
 | nil =>
  intro d H A s hd h hk hns
  rw [List.append_nil] at hd
  subst hd
  have hlt:decide ((ns.length:Int) < (ns.length:Int))=false:=by simp
  refine ⟨H,A,?_,⟨h,Stp.refl _ _,fun a ha=>.inl ha⟩,hk⟩
  rw [store_Store_Restart_L1_eq]
  simp only [go_sem,hlt]
 | cons n r ih =>
  intro d H A s hd h hk hns
  have hlen2:ns.length=d.length+(r.length+1):=by rw [hd];simp
  have hlt:decide ((d.length:Int) < (ns.length:Int))=true:=by simp;omega
  have hw1:IntKind.i64.wrap ((d.length:Int)+1)=((d.length+1:Nat):Int):=by rw [wrap64 (by omega) (by omega)];omega
  have hin:ns[d.length]?=some n:=by rw [hd,List.getElem?_append_right (Nat.le_refl _)];simp
  obtain ⟨f,hf⟩:=hns n (by rw [hd];simp)
  obtain ⟨H1,A1,q1,q2⟩:=restartk_step h hk k hx hin (by omega) hf (.int .i64 (ns.length:Int)) H0
  have hnm:=updF_names s.files n (cutF k d.length) fun _=>rfl
  obtain ⟨H2,A2,r1,r2,r3⟩:=ih (d++[n]) H1 A1 { s with files:=updF s.files n (cutF k d.length) } (by rw [hd];simp) q2.at' (cut_ok hk k d.length n) (fun m hm=>by
   obtain ⟨g,hg⟩:=hns m hm
   refine getF_mem ?_
   show m ∈ (updF s.files n (cutF k d.length)).map Fil.name
   rw [hnm]
   obtain ⟨a,b,e,h1,_⟩:=getF_split hg
   rw [e,← h1]
   simp)
  rw [List.length_append,List.length_singleton] at r1 r2 r3
  refine ⟨H2,A2,?_,q2.trans r2,r3⟩
  rw [store_Store_Restart_L1_eq]
  simp only [go_sem,hlt,q1,store_Store_Restart_J3_eq,hw1]
  exact r1
theorem Restart_run {H : Hp} {o : Nat} {s : Sto} {A : List Nat} (h : StoreAt H o s A) (hk : StoOk s) (k : Nat) :
    ∃ H' A',C_store_Store_Restart [.ptr o 0,.int .u64 (k:Int)] H=some (.tuple [],H')∧StoRes H H' o (s.restart k) A A'∧StoOk (s.restart k):=by
 obtain ⟨m,clk,ds,h,rfl⟩:=h
 have hnil:ebin (.pointer 68) .eql (.ptr o 0) .nilp=some (.bool false):=rfl
 have hcl:H[o]?=some (.cells (stC m s)):=h.cells
 have s4:=stn hcl 4 (v:=.bool false) rfl rfl (by simp [stC])
 have g4:=get_set_eq (AObj.cells (List.set (stC m s) 4 (.bool false))) hcl
 have s5:=stn g4 5 (v:=.int .i64 0) rfl rfl (by simp [stC])
 have g5:=get_set_eq (AObj.cells (List.set (List.set (stC m s) 4 (.bool false)) 5 (.int .i64 0))) g4
 generalize hH1:H.set o (.cells (List.set (stC m s) 4 (.bool false)))=H1 at s4 g4 s5 g5
 generalize hH2:H1.set o (.cells (List.set (List.set (stC m s) 4 (.bool false)) 5 (.int .i64 0)))=H2 at s5 g5
 have hS:Stp [o] H H2:=by
  rw [← hH2,← hH1]
  exact (Stp.set _ _ (by simp)).trans (Stp.set _ _ (by simp)) (fun _ h=>h) fun _ h=>.inl h
 have h2:=h.cell (s':={ s with crashed:=false,count:=0 }) hS g5 rfl
 have hk2:StoOk { s with crashed:=false,count:=0 }:=⟨hk.limit,hk.used,hk.peak,hk.name,hk.nd,hk.syn,hk.len,by simp⟩
 obtain ⟨x,q1,q2⟩:=names_run h2 hk2
 have hnl:(sortK (s.files.map Fil.name)).length≤64:=by rw [(sortK_perm _).length_eq,List.length_map];exact hk.len
 obtain ⟨H',A',r1,r2,r3⟩:=restartk_loop k q2 hnl H _ [] H2 _ { s with crashed:=false,count:=0 } rfl ⟨m,clk,ds,h2,rfl⟩ hk2 (fun n hn=>getF_mem ((sortK_mem _ _).1 hn))
 refine ⟨H',A',?_,(h2.res hS).trans r2,r3⟩
 rw [F_store_Store_Restart_eq]
 unfold F_store_Store_Restart
 simp only [hnil,go_sem,store_Store_Restart_J1_eq,Nat.zero_add,s4,s5,q1,SS.len q2 9]
 exact r1
end Go.Am
