/- The lexer's answer without fuel; what its tokens are like; joining. Plain mathematics. -/
import Derived.Test.YtdeneckmoejcfaaRLexZs
set_option linter.unusedSimpArgs false
set_option linter.unusedVariables false
set_option maxHeartbeats 1000000
namespace Go.Proofs.Ytdeneckmoejcfaa
theorem zcC {b:UInt8} (h:zaH b=true):zaf b=true:=by simp [zaf,h]
theorem zcZ {b:UInt8} (h:zaG b=true):zaf b=true:=by simp [zaf,h]
theorem zfh {b:UInt8} {r:List UInt8} (h:zaf b=true):1<=((b :: r).takeWhile zaf).length:=by
 simp [h]
theorem zeU {go go':List UInt8->Int->Int->LexR} {xs:List UInt8} {l c:Int} (h:∀ ys a b,ys.length < xs.length->go ys a b=go' ys a b):zaK go xs l c=zaK go' xs l c:=by
 cases xs with
 | nil=>rfl
 | cons b r =>
  simp only [zaK];split
  ·rename_i hl
   have:=zfh (r:=r) (zcC hl);rw [h _ _ _ (by simp only [List.length_drop,yB];omega)]
  ·split
   ·rename_i hd
    have:=zfh (r:=r) (zcZ hd);rw [h _ _ _ (by simp only [List.length_drop,yB];omega)]
   ·split
    ·rfl
    ·rw [h _ _ _ (by simp only [List.length_drop,yB];omega)]
theorem zc9:∀ (bs:List UInt8) (cm:Bool) (l c:Int),(zam bs cm l c).1.length<=bs.length:=by
 intro bs
 induction bs with
 | nil=>intro cm l c;simp [zam]
 | cons b r ih =>
  intro cm l c;rw [zam];split
  ·have:=ih false (l+1) 1;simp only [yB];omega
  ·split
   ·have:=ih true l (c+1);simp only [yB];omega
   ·split
    ·have:=ih false l (c+1);simp only [yB];omega
    ·split
     ·have:=ih true l (c+1);simp only [yB];omega
     ·exact zr _
theorem zjY:∀ (f g:Nat) (bs:List UInt8) (l c:Int),bs.length < f->bs.length < g->zbr f bs l c=zbr g bs l c:=by
 intro f
 induction f with
 | zero=>intro g bs l c h;omega
 | succ f ih =>
  intro g bs l c hf hg
  cases g with
  | zero=>omega
  | succ g =>
   rw [zbr,zbr];refine zeU fun ys a b hy=>ih g ys a b ?_ ?_
   ·have:=zc9 bs false l c;omega
   ·have:=zc9 bs false l c;omega
def lexF (bs : List UInt8) (l c : Int) : LexR := zbr (bs.length + 1) bs l c
def lexT (bs : List UInt8) (l c : Int) : LexR := zaK lexF bs l c
theorem zbY (bs:List UInt8) (l c:Int):lexF bs l c=lexT (zam bs false l c).1 (zam bs false l c).2.1 (zam bs false l c).2.2:=by
 show zbr (bs.length+1) bs l c=_;rw [zbr];refine zeU fun ys a b hy=>zjY _ _ ys a b ?_ (Nat.lt_succ_self _)
 have:=zc9 bs false l c;omega
theorem zcO (bs:List UInt8):lexS bs=if 16384 < bs.length then .err 0 0 3 else lexF bs 1 1:=rfl
theorem zda (l c:Int):lexF [] l c=.ok [⟨4,[],0,l,c⟩]:=rfl

inductive TokOk : Tok -> Prop
  | word {b : UInt8} {r : List UInt8} {l c : Int} (h1 : zaH b = true) (h2 : (b :: r).all zaf = true) (h3 : (b :: r).length <= 24) : TokOk ⟨1, b :: r, 0, l, c⟩
  | number {b : UInt8} {r : List UInt8} {n l c : Int} (h0 : zaH b = false) (h1 : zaG b = true) (h2 : (b :: r).all zaf = true) (h3 : zaS (b :: r) = some n) : TokOk ⟨2, b :: r, n, l, c⟩
  | sign {b : UInt8} {r : List UInt8} {l c : Int} (h0 : zaH b = false) (h1 : zaG b = false) (h2 : zag (b :: r) = (b :: r).length) : TokOk ⟨3, b :: r, 0, l, c⟩
theorem TokOk.kind {t:Tok} (h:TokOk t):t.kind≠4:=by cases h <;> simp
theorem TokOk.text {t:Tok} (h:TokOk t):t.text≠[]:=by cases h <;> simp
theorem zfE (xs:List UInt8):xs.take (xs.takeWhile zaf).length=xs.takeWhile zaf:=by
 induction xs with
 | nil=>rfl
 | cons b r ih =>
  by_cases h:zaf b=true
  ·simp [h,ih]
  ·simp [h]
theorem zgH (xs:List UInt8):(xs.takeWhile zaf).all zaf=true:=by
 induction xs with
 | nil=>rfl
 | cons b r ih =>
  by_cases h:zaf b=true
  ·simp only [List.takeWhile_cons,h,if_true,List.all_cons,Bool.true_and];exact ih
  ·simp [h]
theorem zfF {b:UInt8} {r:List UInt8} (h:zaf b=true):(b :: r).takeWhile zaf=b :: r.takeWhile zaf:=by simp [h]
theorem zgI (xs:List UInt8):zag xs<=xs.length:=by
 match xs with
 | []=>exact zr _
 | [a]=>simp only [zag];split <;> simp
 | a :: b :: r=>simp only [zag];split <;> (try split) <;> simp
theorem zlc (xs:List UInt8) (h:zag xs≠0):zag (xs.take (zag xs))=zag xs:=by
 match xs,h with
 | [],h=>exact absurd rfl h
 | [a],h =>
  have h1:zag [a]=1:=by
   simp only [zag] at h ⊢;split at h
   ·rename_i h';rw [yP h']
   ·exact absurd rfl h
  rw [h1];exact h1
 | a :: b :: r,h =>
  have e:zag (a :: b :: r)=if (a.toNat,b.toNat) ∈ zbB then 2 else if a.toNat ∈ zbt then 1 else 0:=rfl
  rw [e] at h ⊢;split
  ·rename_i h2
   show zag [a,b]=2;simp only [zag];rw [yP h2]
  ·rename_i h2
   rw [yN h2] at h;split
   ·rename_i h1
    show zag [a]=1;simp only [zag];rw [yP h1]
   ·rename_i h1
    rw [yN h1] at h;exact absurd rfl h
theorem zet (bs:List UInt8) (l c:Int) :
  (bs=[]/\lexT bs l c=.ok [⟨4,[],0,l,c⟩]) ∨
  (∃ code:Int,bs≠[]/\lexT bs l c=.err l c code/\(code=110∨code=111∨code=112)) ∨
  (∃ t:Tok,TokOk t/\t.line=l/\t.col=c/\bs=t.text++bs.drop t.text.length/\t.text.length<=bs.length/\lexT bs l c=(lexF (bs.drop t.text.length) l (c+t.text.length)).cons t):=by
 cases bs with
 | nil=>exact .inl ⟨rfl,rfl⟩
 | cons b r =>
  refine .inr ?_;show _∨_;have hT:lexT (b :: r) l c=zaK lexF (b :: r) l c:=rfl;rw [hT,zaK];have hlen:∀ n,n<=(b :: r).length->((b :: r).take n).length=n:=fun n h=>by rw [List.length_take];omega
  have hw:((b :: r).takeWhile zaf).length<=(b :: r).length:=(List.takeWhile_prefix _).length_le;split
  ·rename_i hl
   split
   ·exact .inl ⟨111,by simp,rfl,by simp⟩
   ·rename_i h24
    refine .inr ⟨⟨1,(b :: r).takeWhile zaf,0,l,c⟩,?_,rfl,rfl,?_,hw,rfl⟩
    ·have ha:=zgH (b :: r);have hc:=zfF (r:=r) (zcC hl);rw [hc] at ha h24 ⊢;exact .word hl ha (by omega)
    ·show b :: r=(b :: r).takeWhile zaf++(b :: r).drop ((b :: r).takeWhile zaf).length;have:=List.take_append_drop ((b :: r).takeWhile zaf).length (b :: r);rw [zfE] at this;exact this.symm
  ·rename_i hl
   split
   ·rename_i hd
    split
    ·exact .inl ⟨112,by simp,rfl,by simp⟩
    ·rename_i n hn
     refine .inr ⟨⟨2,(b :: r).takeWhile zaf,n,l,c⟩,?_,rfl,rfl,?_,hw,rfl⟩
     ·have ha:=zgH (b :: r);have hc:=zfF (r:=r) (zcZ hd);rw [hc] at ha hn ⊢;exact .number (by simpa using hl) hd ha hn
     ·show b :: r=(b :: r).takeWhile zaf++(b :: r).drop ((b :: r).takeWhile zaf).length;have:=List.take_append_drop ((b :: r).takeWhile zaf).length (b :: r);rw [zfE] at this;exact this.symm
   ·rename_i hd
    split
    ·exact .inl ⟨110,by simp,rfl,by simp⟩
    ·rename_i hs
     have hs1:=zgI (b :: r);have hs2:=zlc (b :: r) hs;refine .inr ⟨⟨3,(b :: r).take (zag (b :: r)),0,l,c⟩,?_,rfl,rfl,?_,?_,?_⟩
     ·obtain ⟨k,hk⟩:∃ k,zag (b :: r)=k+1:=⟨zag (b :: r) - 1,by omega⟩;rw [hk] at hs2 ⊢;rw [List.take_succ_cons] at hs2 ⊢;refine .sign (by simpa using hl) (by simpa using hd) ?_;rw [hs2,<- List.take_succ_cons,hlen _ (by omega)]
     ·show b :: r=(b :: r).take (zag (b :: r))++(b :: r).drop ((b :: r).take (zag (b :: r))).length;rw [hlen _ hs1,List.take_append_drop]
     ·show ((b :: r).take (zag (b :: r))).length<=_;rw [hlen _ hs1];exact hs1
     ·show _=(lexF ((b :: r).drop ((b :: r).take (zag (b :: r))).length) l (c+((b :: r).take (zag (b :: r))).length)).cons _;rw [hlen _ hs1]
open Go.RowKit

theorem zbR (b:Int) (w:World):Calls Try.prog 115 #[.int .u8 b] w fun e w'=>e=.returned (.bool (zaV b))/\w=w':=by
 obtain ⟨p1,p2,p3,p4,p5,q1,q2,q3,q4,q5,hq⟩:∃ p1 p2 p3 p4 p5:Bool,decide (b >= 97)=p1/\decide (b<=122)=p2/\decide (b >= 65)=p3/\decide (b<=90)=p4/\(b == 95)=p5/\zaV b=((p1 && p2) || ((p3 && p4) || p5)):=⟨_,_,_,_,_,rfl,rfl,rfl,rfl,rfl,rfl⟩;rw [hq];clear hq;cases p1 <;> cases p2 <;> cases p3 <;> cases p4 <;> cases p5
 all_goals
  go_enter Try.func115,Try.ntmps115
  go_wp2;go_ret;exact ⟨rfl,rfl⟩
theorem zc0 (b:Int) (w:World):Calls Try.prog 116 #[.int .u8 b] w fun e w'=>e=.returned (.bool (za9 b))/\w=w':=by
 obtain ⟨p1,p2,q1,q2,hq⟩:∃ p1 p2:Bool,decide (b >= 48)=p1/\decide (b<=57)=p2/\za9 b=(p1 && p2):=⟨_,_,rfl,rfl,rfl⟩;rw [hq];clear hq;cases p1 <;> cases p2
 all_goals
  go_enter Try.func116,Try.ntmps116
  go_wp2;go_ret;exact ⟨rfl,rfl⟩
theorem zmh (s:ByteArray) (h:0 < s.size):za4 s.data.toList=(decide (s.size<=24) && (zaH s[0] && (s.data.toList.drop 0).all zaf)):=by
 have e:=za2 s h;rw [List.drop_zero] at e ⊢;have e2:=zaq s;rw [e] at e2 ⊢;show (decide ((s[0] :: s.data.toList.drop (0+1)).length<=24) && zaH s[0] && (s.data.toList.drop (0+1)).all zaf)=_;rw [e2]
 cases hl:zaH s[0] with
 | false=>simp
 | true=>simp [List.all_cons,zcC hl]
theorem zlg (s:ByteArray) (w:World):Calls Try.prog 109 #[.string s] w fun e w'=>e=.returned (.bool (za4 s.data.toList))/\w=w':=by
 rcases Nat.eq_zero_or_pos s.size with h0 | h0
 ·have Hf:Hid (za4 s.data.toList=false):=zh (by
   have:s.data.toList=[]:=List.eq_nil_of_length_eq_zero (by rw [zaq];exact h0)
   rw [this];rfl)
  generalize za4 s.data.toList=final at Hf ⊢;have hz:(s.size:Int) < 1:=by omega
  clear h0;go_enter Try.func109,Try.ntmps109
  go_wp2_with fail
  go_ret;exact ⟨by rw [Hf.out];rfl,rfl⟩
 ·have hz:¬ (s.size:Int) < 1:=by omega
  have Hw:=zh (zmh s h0);generalize za4 s.data.toList=final at Hw ⊢;by_cases h24:s.size<=24
  ·have h24':¬ (s.size:Int) > 24:=by omega
   have h00:(0:Int) < s.size:=by omega
   have HL:=zh (zbR (s[0].toNat:Int) w);obtain ⟨p,hp,hp2⟩:∃ p:Bool,zaV (s[0].toNat:Int)=p/\zaH s[0]=p:=⟨_,rfl,rfl⟩;rw [hp] at HL;have Hw2:Hid (final=(p && (s.data.toList.drop 0).all zaf)):=zh (by rw [Hw.out,hp2,decide_eq_true h24,Bool.true_and]);have hb0:s[0].toNat<=255:=by have:=s[0].toNat_lt;omega
   clear hp hp2 Hw;cases p
   ·go_enter Try.func109,Try.ntmps109
    go_wp2_with fail
    go_at_call 115;refine HL.out.mono ?_;rintro e1 w2 ⟨rfl,rfl⟩;go_wp2_with fail
    go_ret;exact ⟨by rw [Hw2.out];rfl,rfl⟩
   ·go_enter Try.func109,Try.ntmps109
    go_wp2_with fail
    go_at_call 115;refine HL.out.mono ?_;rintro e1 w2 ⟨rfl,rfl⟩;go_wp2_with fail
    obtain ⟨wq,rfl⟩:∃ wq:World,wq=w:=⟨_,rfl⟩;go_loopw [2,3,20,21,22,23,24,25,26,27,28,29,30,31,32,33,34,35] (fun _ _ t20 _ _ _ _ _ _ _ _ _ _ _ _ _ _ _ wr=>∃ k:Nat,k<=s.size/\t20=.int .i64 k/\Hid (final=(s.data.toList.drop k).all zaf)/\wr=wq) (fun _ _ t20 _ _ _ _ _ _ _ _ _ _ _ _ _ _ _ _=>s.size - (intOf t20).toNat)
    case atStart=>exact ⟨0,by omega,rfl,zh (by rw [Hw2.out];rfl),rfl⟩
    case round =>
     obtain ⟨k,hk,rfl,Hk,rfl⟩:=hrel;by_cases hlt:k < s.size
     ·have hb1:s[k].toNat<=255:=by have:=s[k].toNat_lt;omega
      have HL2:=zh (zbR (s[k].toNat:Int) wr);have HD2:=zh (zc0 (s[k].toNat:Int) wr);obtain ⟨p,q,hp,hq,Hpq⟩:∃ p q:Bool,zaV (s[k].toNat:Int)=p/\za9 (s[k].toNat:Int)=q/\Hid (zaf s[k]=(p || q)):=⟨_,_,rfl,rfl,zh rfl⟩;rw [hp] at HL2;rw [hq] at HD2;have Hst:Hid (final=((p || q) && (s.data.toList.drop (k+1)).all zaf)):=zh (by rw [Hk.out,za2 s hlt,List.all_cons,Hpq.out]);clear hp hq;cases p
      ·cases q
       ·go_wp2_with fail
        go_at_call 115;refine HL2.out.mono ?_;rintro e1 w2 ⟨rfl,rfl⟩;go_wp2_with fail
        go_at_call 116;refine HD2.out.mono ?_;rintro e1 w2 ⟨rfl,rfl⟩;go_wp2_with fail
        go_ret;exact ⟨by rw [Hst.out];rfl,rfl⟩
       ·go_wp2_with fail
        go_at_call 115;refine HL2.out.mono ?_;rintro e1 w2 ⟨rfl,rfl⟩;go_wp2_with fail
        go_at_call 116;refine HD2.out.mono ?_;rintro e1 w2 ⟨rfl,rfl⟩;go_wp2_with fail
        go_roundw
        case rel=>exact ⟨k+1,by omega,by go_num,zh (by rw [Hst.out];rfl),by first | rfl | trivial⟩
        case measure=>simp [intOf];omega
      ·go_wp2_with fail
       go_at_call 115;refine HL2.out.mono ?_;rintro e1 w2 ⟨rfl,rfl⟩;go_wp2_with fail
       go_roundw
       case rel=>exact ⟨k+1,by omega,by go_num,zh (by rw [Hst.out];rfl),by first | rfl | trivial⟩
       case measure=>simp [intOf];omega
     ·have Hf:Hid (final=true):=zh (by rw [Hk.out,zdf s (by omega)];rfl);go_wp2_with fail
      go_ret;exact ⟨by rw [Hf.out];rfl,rfl⟩
  ·have h24':(s.size:Int) > 24:=by omega
   have Hf:Hid (final=false):=zh (by rw [Hw.out,decide_eq_false h24];rfl);clear Hw h24;go_enter Try.func109,Try.ntmps109
   go_wp2_with fail
   go_ret;exact ⟨by rw [Hf.out];rfl,rfl⟩
theorem zdn (l:List UInt8):(bstr l).data.toList=l:=by unfold bstr;simp
theorem zm5 (s:ByteArray) (h:0 < s.size):za4 s.data.toList=(decide (s.size<=24) && zaH s[0] && (s.data.toList.drop 1).all zaf):=by
 have e:=za2 s h;rw [List.drop_zero] at e;have e2:=zaq s;rw [e] at e2 ⊢;unfold za4;rw [yB] at e2;simp only [yB,e2,Nat.zero_add,List.drop_succ_cons,List.drop_zero]
theorem zjC (s:ByteArray):(s.data.toList.drop 1).all zaf=true ↔ ∀ (j:Nat) (h:j < s.size),1<=j->zaf s[j]=true:=by
 rw [List.all_eq_true];constructor
 ·intro h j hj h1;refine h _ (List.mem_iff_getElem.2 ⟨j - 1,by rw [List.length_drop,zaq];omega,?_⟩);rw [List.getElem_drop];have:1+(j - 1)=j:=by omega
  simp only [this];rfl
 ·intro h x hx;obtain ⟨j,hj,rfl⟩:=List.mem_iff_getElem.1 hx;rw [List.length_drop,zaq] at hj;rw [List.getElem_drop];exact h (1+j) (by omega) (by omega)
theorem zmi (s:ByteArray) (w:World):Calls Try.prog 92 #[.string s] w fun e w'=>e=.returned (.bool (za4 s.data.toList))/\w=w':=by
 rcases Nat.eq_zero_or_pos s.size with h0 | h0
 ·have Hf:Hid (za4 s.data.toList=false):=zh (by
   have:s.data.toList=[]:=List.eq_nil_of_length_eq_zero (by rw [zaq];exact h0)
   rw [this];rfl)
  generalize za4 s.data.toList=final at Hf ⊢;have hz:((s.size:Int) == 0)=true:=by simp [h0]
  clear h0;go_enter Try.func92,Try.ntmps92
  go_wp2_with fail
  go_ret;exact ⟨by rw [Hf.out];rfl,rfl⟩
 ·have hz:((s.size:Int) == 0)=false:=by rw [beq_eq_false_iff_ne];omega
  have Hw:=zh (zm5 s h0);generalize za4 s.data.toList=final at Hw ⊢;by_cases h24:s.size<=24
  ·have h24':¬ (s.size:Int) > 24:=by omega
   have h00:(0:Int) < s.size:=by omega
   have HL:=zh (zc1 (s[0].toNat:Int) w);obtain ⟨p,hp,hp2⟩:∃ p:Bool,zaV (s[0].toNat:Int)=p/\zaH s[0]=p:=⟨_,rfl,rfl⟩;rw [hp] at HL;have Hw2:Hid (final=(p && (s.data.toList.drop 1).all zaf)):=zh (by rw [Hw.out,hp2,decide_eq_true h24,Bool.true_and]);have hb0:s[0].toNat<=255:=by have:=s[0].toNat_lt;omega
   clear hp hp2 Hw;cases p
   ·go_enter Try.func92,Try.ntmps92
    go_wp2_with fail
    go_at_call 73;refine HL.out.mono ?_;rintro e1 w2 ⟨rfl,rfl⟩;go_wp2_with fail
    go_ret;exact ⟨by rw [Hw2.out];rfl,rfl⟩
   ·go_enter Try.func92,Try.ntmps92
    go_wp2_with fail
    go_at_call 73;refine HL.out.mono ?_;rintro e1 w2 ⟨rfl,rfl⟩;go_wp2_with fail
    go_loopw [2,3,18,19,20,21,22,23,24,25,26,27,28,29,30,31,32,33,34,35] (fun _ t3 _ _ _ _ _ _ _ _ _ _ _ _ _ _ _ _ _ _ wr=>∃ k:Nat,1<=k/\k<=s.size/\t3=.int .i64 k/\Hid (∀ (j:Nat) (h:j < s.size),1<=j->j < k->zaf s[j]=true)/\wr=w) (fun _ t3 _ _ _ _ _ _ _ _ _ _ _ _ _ _ _ _ _ _ _=>s.size - (intOf t3).toNat)
    case atStart=>exact ⟨1,by omega,by omega,rfl,zh (by intro j _ h1 h2;omega),rfl⟩
    case round =>
     obtain ⟨k,hk1,hk,rfl,Hk,rfl⟩:=hrel;by_cases hlt:k < s.size
     ·have hlt1:(k:Int) < s.size:=by omega
      have HL:=zh (zc1 (s[k].toNat:Int) wr);have HD:=zh (zcP (s[k].toNat:Int) wr);obtain ⟨pl,pd,hpl,hpd,hpp⟩:∃ pl pd:Bool,zaV (s[k].toNat:Int)=pl/\za9 (s[k].toNat:Int)=pd/\zaf s[k]=(pl || pd):=⟨_,_,rfl,rfl,rfl⟩;rw [hpl] at HL;rw [hpd] at HD;have Hpp:=zh hpp;have hse:s[k].toNat<=255:=by have:=s[k].toNat_lt;omega
      clear hpl hpd hpp
      have HN:Hid (pl=true∨pd=true->∀ (j:Nat) (h:j < s.size),1<=j->j < k+1->zaf s[j]=true):=zh (by
       intro hor j hj h1 h2;rcases Nat.lt_or_ge j k with h | h
       ·exact Hk.out j hj h1 h
       ·obtain rfl:j=k:=by omega
        rw [Hpp.out];rcases hor with rfl | rfl
        ·rfl
        ·cases pl <;> rfl)
      cases pl
      ·cases pd
       ·have Hf:Hid (final=false):=zh (by
         rw [Hw2.out,Bool.true_and,Bool.eq_false_iff];intro h;have:=(zjC s).1 h k hlt hk1;rw [Hpp.out] at this
         cases this)
        go_wp2_with fail
        go_at_call 73;refine HL.out.mono ?_;rintro e1 w2 ⟨rfl,rfl⟩;go_wp2_with fail
        go_at_call 74;refine HD.out.mono ?_;rintro e1 w2 ⟨rfl,rfl⟩;go_wp2_with fail
        go_ret;exact ⟨by rw [Hf.out];rfl,by first | rfl | trivial⟩
       ·go_wp2_with fail
        go_at_call 73;refine HL.out.mono ?_;rintro e1 w2 ⟨rfl,rfl⟩;go_wp2_with fail
        go_at_call 74;refine HD.out.mono ?_;rintro e1 w2 ⟨rfl,rfl⟩;go_wp2_with fail
        go_roundw
        case rel=>exact ⟨k+1,by omega,by omega,by go_num,zh (HN.out (.inr (by first | rfl | trivial))),by first | rfl | trivial⟩
        case measure=>simp [intOf];omega
      ·go_wp2_with fail
       go_at_call 73;refine HL.out.mono ?_;rintro e1 w2 ⟨rfl,rfl⟩;go_wp2_with fail
       go_roundw
       case rel=>exact ⟨k+1,by omega,by omega,by go_num,zh (HN.out (.inl (by first | rfl | trivial))),by first | rfl | trivial⟩
       case measure=>simp [intOf];omega
     ·have hlt1:¬ (k:Int) < s.size:=by omega
      have Hf:Hid (final=true):=zh (by
       rw [Hw2.out,Bool.true_and,zjC]
       exact fun j hj h1=>Hk.out j hj h1 (by omega))
      go_wp2_with fail
      go_ret;exact ⟨by rw [Hf.out];rfl,by first | rfl | trivial⟩
  ·have h24':(s.size:Int) > 24:=by omega
   have Hf:Hid (final=false):=zh (by rw [Hw.out,decide_eq_false h24];rfl);go_enter Try.func92,Try.ntmps92
   go_wp2_with fail
   go_ret;exact ⟨by rw [Hf.out];rfl,rfl⟩
theorem zmj (s:List UInt8) (w:World):Calls Try.prog 92 #[.string (bstr s)] w fun e w'=>e=.returned (.bool (za4 s))/\w=w':=by
 have h:=zmi (bstr s) w;rw [zdn] at h;exact h
theorem zmk {l:List Tok} {i:Nat} (hi:i < l.length):zaa l i=l[i]:=by
 unfold zaa;rw [List.getD_eq_getElem?_getD,yD hi];rfl
theorem zaF {w:World} {l:List Tok} {a:Option Addr} {m cap:Nat} (h:Toks w l (.slice a m cap)) {i:Nat} (hi:i < l.length) :
  ∃ b off,a=some ⟨b,off,none⟩/\w.cell? ⟨b,off+i * 5,none⟩=some (.int .u8 (zaa l i).kind)/\w.cell? ⟨b,off+i * 5+1,none⟩=some (.string (bstr (zaa l i).text))/\w.cell? ⟨b,off+i * 5+2,none⟩=some (.int .i64 (zaa l i).n)/\w.cell? ⟨b,off+i * 5+3,none⟩=some (.int .i64 (zaa l i).line)/\w.cell? ⟨b,off+i * 5+4,none⟩=some (.int .i64 (zaa l i).col):=by
 obtain ⟨b,off,rfl,hlt,hb⟩:=Sl.at (by omega) h (by omega)
 have hc:∀ j,j < 5->w.cell? ⟨b,off+(i * 5+j),none⟩=(Tok.cells (zaa l i))[j]?:=by
  intro j hj;rw [hb (i * 5+j) (by omega),zeW Tok.cells 5 (fun _=>rfl) l i hi j hj];rw [zmk hi]
 exact ⟨b,off,rfl,hc 0 (by omega),hc 1 (by omega),hc 2 (by omega),hc 3 (by omega),hc 4 (by omega)⟩
end Go.Proofs.Ytdeneckmoejcfaa
