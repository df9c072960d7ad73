/-
  THE ABSTRACT MACHINE, part D: operations on numbers, strings, addresses, parts.
-/
import Derived.Test.YtgglgbfolgcaiaaGreatDoorHmCx
import Derived.ChangeKeysEq
namespace Go.Am
open RowKit

section
variable {P:Program} {S:Snap} {W0:World} {H:Hp}

theorem intbin_sound {op : BinOp} {k : IntKind} {a b : Int} {v : AV} (h : intbin op k a b = some v) (t : TypeId) :
    ∃ v',(binOp op t (.int k a) (.int k b)).run P S.w=.ok v' S.w∧VRel S v v':=by
 cases op <;> simp only [intbin] at h
 case quo =>
  split at h
  ·cases h
  ·injection h with h;subst h;exact ⟨_,by simp [binOp,Op.intDiv, *],.int _ _⟩
 case rem =>
  split at h
  ·cases h
  ·injection h with h;subst h;exact ⟨_,by simp [binOp,Op.intDiv, *],.int _ _⟩
 case shl=>cases h
 case shr=>cases h
 case add | sub | mul =>
  injection h with h;subst h;exact ⟨_,by simp [binOp,Op.intArith],.int _ _⟩
 case and | or | xor | andNot =>
  injection h with h;subst h;exact ⟨_,by simp [binOp,Op.intBits],.int _ _⟩
 all_goals
  injection h with h;subst h;exact ⟨_,by simp [binOp,Op.intCmp],.bool _⟩

theorem size_toList (a:ByteArray):a.data.toList.length=a.size:=by cases a;rfl

theorem strbin_sound {op : BinOp} {x y : List UInt8} {v : AV} {a b : ByteArray} (hx : a.data.toList = x) (hy : b.data.toList = y) (h : strbin op x y = some v) :
    ∃ v',(Op.stringOp op a b).run P S.w=.ok v' S.w∧VRel S v v':=by
 subst hx hy
 cases op <;> simp only [strbin] at h
 case add =>
  split at h
  ·rename_i hle
   injection h with h;subst h
   have hs:¬ (((a.size+b.size:Nat):Int) > IntKind.i64.max):=by
    rw [size_toList,size_toList] at hle
    rw [IntKind.max_i64];omega
   refine ⟨.string (a++b),by simp only [Op.stringOp,if_neg hs,Sem.run_pure],.str _ _ ?_⟩
   simp
  ·cases h
 case sub | mul | quo | rem | and | or | xor | shl | shr | andNot=>cases h
 all_goals (injection h with h;subst h;exact ⟨_,by simp only [Op.stringOp,ByteArray.toList_eq,Sem.run_pure],.bool _⟩)

theorem eqFields_sound {d : Nat} {rec : TypeId → AV → AV → Option Bool} {xs ys : List AV} {cx cy : Array Value} (hx : CellsRel S xs cx) (hy : CellsRel S ys cy)
    (hr:∀ (t:TypeId) (x y:AV) (u v:Value) (r:Bool),VRel S x u→VRel S y v→rec t x y=some r→(Op.equalIn d t u v).run P S.w=.ok r S.w) :
    ∀ (fs:List Field) (r:Bool),aeqFields P rec xs ys fs=some r→(Op.eqFields d cx cy fs).run P S.w=.ok r S.w:=by
 intro fs
 induction fs with
 | nil=>intro r h;simp [aeqFields] at h;subst h;rfl
 | cons f fs ih =>
  intro r h
  unfold aeqFields at h
  unfold Op.eqFields
  split at h
  ·rename_i hn
   rw [if_pos hn]
   split at h
   ·rename_i g sz hg hs
    split at h
    ·rename_i u v hu hv
     obtain ⟨u',r1,h1⟩:=part_sound hg hs hx hu
     obtain ⟨v',r2,h2⟩:=part_sound hg hs hy hv
     simp only [Sem.run_bind,r1,r2,Result.andThen_ok]
     split at h
     ·rename_i hrec
      simp only [hr _ _ _ _ _ _ h1 h2 hrec,Result.andThen_ok,Bool.not_true,Bool.false_eq_true,if_false]
      exact ih r h
     ·rename_i hne
      cases r with
      | true=>exact absurd h hne
      | false=>simp [hr _ _ _ _ _ _ h1 h2 h]
    ·cases h
   ·cases h
  ·rename_i hn
   rw [if_neg hn]
   exact ih r h

theorem eqItems_sound {d : Nat} {rec : AV → AV → Option Bool} {e : TypeId} {g : Bool} {sz : Nat} {xs ys : List AV} {cx cy : Array Value} (hg : isAggT P e = some g) (hs : szT P e = some sz) (hx : CellsRel S xs cx) (hy : CellsRel S ys cy)
    (hr:∀ (x y:AV) (u v:Value) (r:Bool),VRel S x u→VRel S y v→rec x y=some r→(Op.equalIn d e u v).run P S.w=.ok r S.w) :
    ∀ (is:List Nat) (r:Bool),aeqItems rec g sz xs ys is=some r→(Op.eqItems d e sz cx cy is).run P S.w=.ok r S.w:=by
 intro is
 induction is with
 | nil=>intro r h;simp [aeqItems] at h;subst h;rfl
 | cons i is ih =>
  intro r h
  unfold aeqItems at h
  unfold Op.eqItems
  split at h
  ·rename_i u v hu hv
   obtain ⟨u',r1,h1⟩:=part_sound hg hs hx hu
   obtain ⟨v',r2,h2⟩:=part_sound hg hs hy hv
   simp only [Sem.run_bind,r1,r2,Result.andThen_ok]
   split at h
   ·rename_i hrec
    simp only [hr _ _ _ _ _ h1 h2 hrec,Result.andThen_ok,Bool.not_true,Bool.false_eq_true,if_false]
    exact ih r h
   ·rename_i hne
    cases r with
    | true=>exact absurd h hne
    | false=>simp [hr _ _ _ _ _ h1 h2 h]
  ·cases h

set_option maxHeartbeats 4000000 in
theorem aeqS_sound {ds : TypeDesc} {t : TypeId} {x y : AV} {u v : Value} {r : Bool} (d : Nat) (hu : P.underlying t = some ds) (hx : VRel S x u) (hy : VRel S y v) (h : aeqS ds x y = some r) :
    (Op.equalIn (d+1) t u v).run P S.w=.ok r S.w:=by
 have hun:=run_underlying hu S.w
 unfold aeqS at h
 split at h
 case h_1=>cases hx;cases hy;injection h with h;subst h;exact run_equalIn_bool' S.w d t _ _ hu
 case h_2 =>
  cases hx;cases hy
  split at h
  ·injection h with h;rename_i hk;subst h hk;exact run_equalIn_int S.w d t _ _ _ _ hu
  ·cases h
 case h_3 =>
  cases hx with | str _ a' ha =>
  cases hy with | str _ b' hb =>
  injection h with h;subst h ha hb
  rw [run_equalIn_string S.w d t _ _ hu,ByteArray.toList_eq,ByteArray.toList_eq]
 all_goals first
  | (cases h;done)
  | (cases hx;cases hy;injection h with h;subst h;unfold Op.equalIn;simp only [Sem.run_bind,hun,Result.andThen_ok];rfl)

theorem aeq_sound {ok : TypeId → Bool} (hok : ∀ t, ok t = true → P.stoodInHeld t = false) : ∀ (n d : Nat) (t : TypeId) (x y : AV) (u v : Value) (r : Bool), n ≤ d → VRel S x u → VRel S y v → aeq P ok n t x y = some r →
    (Op.equalIn d t u v).run P S.w=.ok r S.w:=by
 intro n
 induction n with
 | zero=>intro d t x y u v r _ _ _ h;simp [aeq] at h
 | succ n ih =>
  intro d t x y u v r hd hx hy h
  obtain ⟨d,rfl⟩:∃ d',d=d'+1:=⟨d - 1,by omega⟩
  unfold aeq at h
  split at h
  ·rename_i fs hu
   split at h
   ·split at h
    ·rename_i hk
     cases hx with | agg _ cx hxc hxs hxr =>
     cases hy with | agg _ cy hyc hys hyr =>
     have hf:P.underlying t=some (.struct (P.fieldsOf t)):=by simp [Program.fieldsOf,hu]
     have hff:P.fieldsOf t=fs:=by simp [Program.fieldsOf,hu]
     rw [run_equalIn_struct S.w d t cx cy hf (hok t hk),hff]
     exact eqFields_sound ⟨hxs,hxr,hxc⟩ ⟨hys,hyr,hyc⟩ (fun t x y u v r h1 h2 h3=>ih d t x y u v r (by omega) h1 h2 h3) _ r h
    ·cases h
   ·cases h
  ·rename_i n' e hu
   split at h
   ·split at h
    ·split at h
     ·rename_i g sz hg hs
      cases hx with | agg _ cx hxc hxs hxr =>
      cases hy with | agg _ cy hyc hys hyr =>
      obtain ⟨i,hi,rfl⟩:∃ i,P.info? e=some i∧P.cellsOf e=sz:=by
       unfold szT at hs
       cases hi:P.info? e with
       | none=>simp [hi] at hs
       | some i=>exact ⟨i,rfl,by simp [hi] at hs;simp [Program.cellsOf,hi,hs]⟩
      rw [run_equalIn_array S.w d cx cy hu hi]
      exact eqItems_sound hg hs ⟨hxs,hxr,hxc⟩ ⟨hys,hyr,hyc⟩ (fun x y u v r h1 h2 h3=>ih d e x y u v r (by omega) h1 h2 h3) _ r h
     ·cases h
    ·cases h
   ·cases h
  ·rename_i ds hns hna hu
   exact aeqS_sound d hu hx hy h
  ·cases h
end
end Go.Am
