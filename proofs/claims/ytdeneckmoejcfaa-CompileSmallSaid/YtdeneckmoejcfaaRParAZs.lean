/- The reference parser's small functions, walked: is, kinds, Kind. No condition but the bounds that an index and a string have. -/
import Derived.Test.YtdeneckmoejcfaaLexMZs
set_option linter.unusedSimpArgs false
set_option linter.unusedVariables false
set_option maxRecDepth 100000
namespace Go.Proofs.Ytdeneckmoejcfaa
open Go.RowKit

theorem zdP (l m:List UInt8):(bstr l).toList == (bstr m).toList ↔ l=m:=by
 rw [beq_iff_eq,ByteArray.toList_eq,ByteArray.toList_eq,zdn,zdn]
theorem ze8 (l:List Tok) (v:Value) (i:Nat) (s:List UInt8) (w:World) (hT:Toks w l v) (hi:i < l.length) :
  Calls Try.prog 80 #[v,.int .i64 i,.string (bstr s)] w fun e w'=>e=.returned (.bool (isS l i s))/\w=w':=by
 obtain ⟨a,cap,rfl,hc1,hc2⟩:=Sl.form hT;obtain ⟨b,off,rfl,c0,c1,c2,c3,c4⟩:=zaF hT hi;have hi1:(i:Int) < l.length:=by omega
 obtain ⟨p,q,hp,hq,hr⟩:∃ p q:Bool,((zaa l i).kind != 4)=p/\((bstr (zaa l i).text).toList == (bstr s).toList)=q/\isS l i s=(p && q):=by
  refine ⟨_,_,rfl,rfl,?_⟩;unfold isS;congr 1
  ·rw [Bool.eq_iff_iff];simp
  ·rw [Bool.eq_iff_iff,yQ];exact (zdP _ _).symm
 rw [hr];clear hr;cases p
 ·go_enter Try.func80,Try.ntmps80
  go_wp2;go_ret;exact ⟨rfl,rfl⟩
 ·cases q
  all_goals
   go_enter Try.func80,Try.ntmps80
   go_wp2_with fail
   go_ret;exact ⟨rfl,rfl⟩
def Strs (w : World) (l : List (List UInt8)) (v : Value) : Prop := Sl w 1 l.length (l.map fun s => Value.string (bstr s)) v
theorem zlN (w:World):Calls Try.prog 93 #[] w fun e w'=>∃ v,e=.returned v/\Strs w' kindWords v/\Below w.heap.size w w':=by
 go_enter Try.func93,Try.ntmps93
 go_wp2;go_ret;refine ⟨_,rfl,?_,(yR _ _).alloc (zr _) _⟩;exact Sl.of_own ((OwnV.new w 9 (kindWords.map fun s=>Value.string (bstr s))).own (zr _) rfl rfl (by decide))
theorem zc5 {s:List UInt8} {l:List (List UInt8)} {k:Nat} (h:k < l.length):zai s (l.drop k) k=if l[k]=s then k+1 else zai s (l.drop (k+1)) (k+1):=by
 rw [List.drop_eq_getElem_cons h,zai]
theorem zdq {s:List UInt8} {l:List (List UInt8)} {k:Nat} (h:l.length<=k):zai s (l.drop k) k=0:=by
 rw [List.drop_of_length_le h,zai]
theorem Strs.cell {w:World} {l:List (List UInt8)} {a:Option Addr} {m cap:Nat} (h:Strs w l (.slice a m cap)) (hn:0 < l.length) :
  ∃ b off,a=some ⟨b,off,none⟩/\∀ (k:Nat) (h:k < l.length),w.cell? ⟨b,off+k,none⟩=some (.string (bstr l[k])):=by
 obtain ⟨b,off,rfl,hlt,hb⟩:=Sl.at (by omega) h hn;refine ⟨b,off,rfl,fun k hk=>?_⟩;rw [hb k (by omega),List.getElem?_map,yD hk];rfl
theorem zfT:kindWords.length=10:=rfl
theorem zb6 (s:List UInt8) (w:World):Calls Try.prog 77 #[.string (bstr s)] w fun e w'=>e=.returned (.int .u8 (zap s))/\Below w.heap.size w w':=by
 have HK:=zh (zlN w);have Hf:Hid (zap s=zai s (kindWords.drop 0) 0):=zh rfl;generalize zap s=final at Hf ⊢;go_enter Try.func77,Try.ntmps77
 go_wp2_with fail
 go_at_call 93;refine HK.out.mono ?_;rintro e1 w2 ⟨v,rfl,hS,hb⟩;obtain ⟨a,cap,rfl,hc1,hc2⟩:=Sl.form hS;obtain ⟨b,off,rfl,hcell⟩:=Strs.cell hS (by decide);have Hcell:=zh hcell;have Hb:=zh hb;rw [zfT] at hc1;simp only [zfT];clear hcell hb hS;go_wp2_with fail
 obtain ⟨wq,rfl⟩:∃ wq:World,wq=w2:=⟨_,rfl⟩;go_loopw [2,4,6,7,8,9,10,11,12,13,14,15,16,17,18,19,20] (fun _ t4 _ _ _ _ _ _ _ _ _ _ _ _ _ _ _ wr=>∃ k:Nat,k<=10/\t4=.int .i64 k/\Hid (final=zai s (kindWords.drop k) k)/\wr=wq) (fun _ t4 _ _ _ _ _ _ _ _ _ _ _ _ _ _ _ _=>10 - (intOf t4).toNat)
 case atStart=>exact ⟨0,by omega,rfl,zh Hf.out,rfl⟩
 case round =>
  obtain ⟨k,hk,rfl,Hk,rfl⟩:=hrel;by_cases hlt:k < 10
  ·have hlt1:(k:Int) < 10:=by omega
   have c0:=Hcell.out k hlt;have Hst:=zh (zc5 (s:=s) (l:=kindWords) (k:=k) hlt);obtain ⟨q,hq,hq2⟩:∃ q:Bool,((bstr (kindWords[k]'hlt)).toList == (bstr s).toList)=q/\(q=true ↔ kindWords[k]'hlt=s):=⟨_,rfl,zdP _ _⟩
   generalize kindWords[k]'hlt=kw at *
   have Hq:=zh hq2;clear hq2;cases q
   ·have Hk2:Hid (final=zai s (kindWords.drop (k+1)) (k+1)):=zh (by rw [Hk.out,Hst.out,yN (fun e=>by have:=Hq.out.2 e;cases this)]);go_wp2_with fail
    go_roundw
    case rel=>exact ⟨k+1,by omega,by go_num,zh Hk2.out,by first | rfl | trivial⟩
    case measure=>simp [intOf];omega
   ·have Hk2:Hid (final=k+1):=zh (by rw [Hk.out,Hst.out,yP (Hq.out.1 rfl)]);go_wp2_with fail
    go_ret;exact ⟨by rw [Hk2.out];simp;try omega,Hb.out⟩
  ·have hlt1:¬ (k:Int) < 10:=by omega
   have Hk2:Hid (final=0):=zh (by rw [Hk.out,zdq (by rw [zfT];omega)]);go_wp2_with fail
   go_ret;exact ⟨by rw [Hk2.out];rfl,Hb.out⟩
def zcf (t : Tok) : Nat := if t.kind = 3 then zai t.text signWords 0 else 0
def twoE (n : Nat) : Ending := .returned (.tuple #[.int .u8 ((if n = 0 then 0 else 9 + n : Nat) : Int), .int .i64 ((strongs.getD n 0 : Nat) : Int)])
theorem zjI (t:Tok) (w:World):Calls Try.prog 108 #[.agg #[.int .u8 t.kind,.string (bstr t.text),.int .i64 t.n,.int .i64 t.line,.int .i64 t.col]] w fun e w' =>
  e=twoE (zcf t)/\Below w.heap.size w w':=by
 by_cases h3:t.kind=3
 ·have hk:(t.kind != 3)=false:=by simp [h3]
  have Hf:Hid (zcf t=zai t.text (signWords.drop 0) 0):=zh (by unfold zcf;rw [yP h3];rfl);clear h3;generalize zcf t=final at Hf ⊢;have s1:∀ o,(w.alloc o).heap.size=w.heap.size+1:=by intro o;simp
  have s2:∀ o p,((w.alloc o).alloc p).heap.size=w.heap.size+1+1:=by intro o p;simp
  have HA:=zh (OwnV.new w 108 (Tok.cells t));have HB:=zh (OwnV.new (w.alloc (.cells (Tok.cells t).toArray 108)) 9 (signWords.map fun s=>Value.string (bstr s)));have HC:=zh (OwnV.new ((w.alloc (.cells (Tok.cells t).toArray 108)).alloc (.cells (signWords.map fun s=>Value.string (bstr s)).toArray 9)) 3 (strongs.tail.map fun (n:Nat)=>Value.int .i64 n));rw [s1] at HB;rw [s2] at HC;clear s1 s2;go_enter Try.func108,Try.ntmps108
  go_wp2_with fail
  go_loopw [2,3,6,12,13,14,15,16,17,18,19,20,21,22,23,24,25,26,27,28,29,30,31] (fun _ _ t6 _ _ _ _ _ _ _ _ _ _ _ _ _ _ _ _ _ _ _ _ wr=>∃ k:Nat,k<=13/\t6=.int .i64 k/\Hid (final=zai t.text (signWords.drop k) k)/\Hid (OwnV wr w.heap.size 108 (Tok.cells t))/\Hid (OwnV wr (w.heap.size+1) 9 (signWords.map fun s=>Value.string (bstr s)))/\Hid (OwnV wr (w.heap.size+1+1) 3 (strongs.tail.map fun (n:Nat)=>Value.int .i64 n))/\Below w.heap.size w wr) (fun _ _ t6 _ _ _ _ _ _ _ _ _ _ _ _ _ _ _ _ _ _ _ _ _=>13 - (intOf t6).toNat)
  case atStart=>exact ⟨0,by omega,rfl,zh Hf.out,zh ((HA.out.alloc _).alloc _),zh (HB.out.alloc _),zh HC.out,(((yR _ _).alloc (zr _) _).alloc (by simp) _).alloc (by simp;omega) _⟩
  case round =>
   obtain ⟨k,hk,rfl,Hk,HA,HB,HC,hb⟩:=hrel;have Hb:=zh hb;clear hb;have hsz:w.heap.size<=wr.heap.size:=Hb.out.size;by_cases hlt:k < 13
   ·have hlt1:(k:Int) < 13:=by omega
    have hkl:k < signWords.length:=hlt;have c0:wr.cell? ⟨w.heap.size,1,none⟩=some (.string (bstr t.text)):=HA.out.cell rfl;have c1:wr.cell? ⟨w.heap.size+1,k,none⟩=some (.string (bstr (signWords[k]'hkl))):=HB.out.cell (by rw [List.getElem?_map,yD hkl];rfl);have Hst:=zh (zc5 (s:=t.text) (l:=signWords) (k:=k) hkl);obtain ⟨q,hq,hq2⟩:∃ q:Bool,((bstr (signWords[k]'hkl)).toList == (bstr t.text).toList)=q/\(q=true ↔ signWords[k]'hkl=t.text):=⟨_,rfl,zdP _ _⟩
    generalize signWords[k]'hkl=kw at *
    have Hq:=zh hq2;clear hq2;go_wp2_with fail
    refine zac (fun w'=>Below wr.heap.size wr w') (by kernel_rfl) (by kernel_rfl) ((yR _ _).drew) ?_
    repeat
     try simp only [Act.put,zs1,zs3,zs2]
     apply stepsSeq.cons
     ·intro w' hb1;have Hb1':=zh hb1;have c0':=Below.keep hb1 c0;have c1':=Below.keep hb1 c1;simp only [Act.put,zs1,zs3,zs2];go_wp2_with (fail)
      first | exact ⟨rfl,Hb1'.out⟩ | exact ⟨rfl,Hb1'.out.trans (hb2.mono Hb1'.out.size)⟩
    try simp only [Act.put,zs1,zs3,zs2]
    refine stepsSeq.nil ?_;intro w' hb1;have Hb2:=zh (Hb.out.trans (hb1.mono hsz));clear c0 c1;cases q
    ·have Hk2:Hid (final=zai t.text (signWords.drop (k+1)) (k+1)):=zh (by rw [Hk.out,Hst.out,yN (fun e=>by have:=Hq.out.2 e;cases this)]);go_wp2_with fail
     go_roundw
     case rel=>exact ⟨k+1,by omega,by go_num,zh Hk2.out,zh (HA.out.below hb1 (zr _)),zh (HB.out.below hb1 (zr _)),zh (HC.out.below hb1 (zr _)),Hb2.out⟩
     case measure=>simp [intOf];omega
    ·have Hk2:Hid (final=k+1):=zh (by rw [Hk.out,Hst.out,yP (Hq.out.1 rfl)]);have HC2:=zh (HC.out.below hb1 (zr _))
     have Hst3:Hid ((strongs.tail.map fun (n:Nat)=>Value.int .i64 n)[k]? = some (.int .i64 ((strongs.getD (k+1) 0:Nat):Int))):=zh (by
      have:∀ j:Fin 13,strongs.tail[j.val]? = some (strongs.getD (j.val+1) 0):=by decide
      rw [List.getElem?_map,this ⟨k,hlt⟩];rfl)
     obtain ⟨wv,hwv⟩:∃ wv:World,wv=w':=⟨_,rfl⟩;subst hwv;have c3:wv.cell? ⟨w.heap.size+1+1,k,none⟩=some (.int .i64 ((strongs.getD (k+1) 0:Nat):Int)):=HC2.out.cell Hst3.out;clear hb1;go_wp2_with fail
     refine zac (fun w'=>Below wv.heap.size wv w') (by kernel_rfl) (by kernel_rfl) ((yR _ _).drew) ?_
     repeat
      try simp only [Act.put,zs1,zs3,zs2]
      apply stepsSeq.cons
      ·intro w' hb1;have Hb1':=zh hb1;have c3':=Below.keep hb1 c3;simp only [Act.put,zs1,zs3,zs2];go_wp2_with (fail)
       first | exact ⟨rfl,Hb1'.out⟩ | exact ⟨rfl,Hb1'.out.trans (hb2.mono Hb1'.out.size)⟩
     try simp only [Act.put,zs1,zs3,zs2]
     refine stepsSeq.nil ?_;intro w' hb1;clear c3;go_wp2_with fail
     exact yE (v:=.tuple #[.int .u8 (10+(k:Int)),.int .i64 ((strongs.getD (k+1) 0:Nat):Int)]) (by simp [results,Try.results108,go_sem]) rfl ⟨by rw [Hk2.out,twoE,yN (by omega),show ((9+(k+1):Nat):Int)=10+(k:Int) by omega],Hb2.out.trans (hb1.mono (by have:=Hb2.out.size;omega))⟩
   ·have hlt1:¬ (k:Int) < 13:=by omega
    have Hk2:Hid (final=0):=zh (by rw [Hk.out,zdq (by show 13<=k;omega)]);go_wp2_with fail
    exact yE (v:=.tuple #[.int .u8 0,.int .i64 0]) (by simp [results,Try.results108,go_sem]) rfl ⟨by first | rfl | (rw [Hk2.out];rfl),Hb.out⟩
 ·have hk:(t.kind != 3)=true:=by simp [h3]
  have hf:zcf t=0:=by unfold zcf;rw [yN h3]
  rw [hf];go_enter Try.func108,Try.ntmps108
  go_wp2_with fail
  exact yE (v:=.tuple #[.int .u8 0,.int .i64 0]) (by simp [results,Try.results108,go_sem]) rfl ⟨rfl,(yR _ _).alloc (zr _) _⟩
def zcE : PR Unit -> Ending
  | .ok _ n => .returned (.tuple #[.int .i64 n, .int .i64 0])
  | .err a c => .returned (.tuple #[.int .i64 a, .int .i64 c])
theorem zd8 (l:List Tok) (v:Value) (i:Nat) (s:List UInt8) (o:Nat) (w:World) (hT:Toks w l v) (hi:i < l.length) (hm:l.length<=4611686018427387904) :
  Calls Try.prog 94 #[v,.int .i64 i,.string (bstr s),.int .i64 o] w fun e w'=>e=zcE (zay l i s o)/\w=w':=by
 have HI:=zh (ze8 l v i s w hT hi);obtain ⟨p,hp,Hp⟩:∃ p:Bool,isS l i s=p/\Hid (zay l i s o=if p=false then .err i 120 else if 200<=o then .err i 121 else .ok () (i+1)):=⟨_,rfl,zh rfl⟩;rw [hp] at HI;clear hp;generalize zay l i s o=final at Hp ⊢;have hi1:(i:Int)<=4611686018427387904:=by omega
 cases p
 ·have Hf:Hid (final=.err i 120):=zh (by rw [Hp.out,yP rfl]);go_enter Try.func94,Try.ntmps94
  go_wp2_with fail
  go_at_call 80;refine HI.out.mono ?_;rintro e1 w2 ⟨rfl,rfl⟩;go_wp2_with fail
  exact yE (v:=.tuple #[.int .i64 i,.int .i64 120]) (by simp [results,Try.results94,go_sem]) rfl ⟨by rw [Hf.out];rfl,rfl⟩
 ·by_cases ho:200<=o
  ·have ho1:(o:Int) >= 200:=by omega
   have Hf:Hid (final=.err i 121):=zh (by rw [Hp.out,yN (by decide),yP ho]);go_enter Try.func94,Try.ntmps94
   go_wp2_with fail
   go_at_call 80;refine HI.out.mono ?_;rintro e1 w2 ⟨rfl,rfl⟩;go_wp2_with fail
   exact yE (v:=.tuple #[.int .i64 i,.int .i64 121]) (by simp [results,Try.results94,go_sem]) rfl ⟨by rw [Hf.out];rfl,rfl⟩
  ·have ho1:¬ (o:Int) >= 200:=by omega
   have Hf:Hid (final=.ok () (i+1)):=zh (by rw [Hp.out,yN (by decide),yN ho]);go_enter Try.func94,Try.ntmps94
   go_wp2_with fail
   go_at_call 80;refine HI.out.mono ?_;rintro e1 w2 ⟨rfl,rfl⟩;go_wp2_with fail
   exact yE (v:=.tuple #[.int .i64 (i+1),.int .i64 0]) (by simp [results,Try.results94,go_sem]) rfl ⟨by rw [Hf.out];rfl,rfl⟩
theorem zdg (s:List UInt8):zap s<=10:=by
 have key:∀ (l:List (List UInt8)) (k:Nat),zai s l k<=l.length+k:=by
  intro l
  induction l with
  | nil=>intro k;exact Nat.zero_le _
  | cons x l ih =>
   intro k;rw [zai,yB];split
   ·omega
   ·have:=ih (k+1);omega
 exact key kindWords 0
theorem zfU (s:List UInt8) (w:World):Calls Try.prog 68 #[.string (bstr s)] w fun e w'=>e=.returned (.bool (zaP s))/\Below w.heap.size w w':=by
 have HW:=zh (zmj s w);obtain ⟨p,hp,Hp⟩:∃ p:Bool,za4 s=p/\Hid (zaP s=(p && decide (zap s=0) && decide (zai s (keyWords.drop 0) 0=0))):=⟨_,rfl,zh rfl⟩;rw [hp] at HW;clear hp;have HK:=zh (zb6 s w)
 obtain ⟨q,hq,hq3,hq2⟩:∃ q:Bool,decide (0 < zap s)=q/\decide ((zap s:Int) > 0)=q/\decide (zap s=0) = !q:=⟨_,rfl,by
  rw [Bool.eq_iff_iff];simp;try omega,by
  rw [Bool.eq_iff_iff];simp⟩
 rw [hq2] at Hp;have hk10:=zdg s
 generalize zap s=kn at *
 generalize zaP s=final at Hp ⊢;cases p
 ·go_enter Try.func68,Try.ntmps68
  go_wp2_with fail
  go_at_call 92;refine HW.out.mono ?_;rintro e1 w2 ⟨rfl,rfl⟩;go_wp2_with fail
  go_ret;exact ⟨by rw [Hp.out];rfl,yR _ _⟩
 ·cases q
  ·have hk0:¬ 0 < kn:=of_decide_eq_false hq;go_enter Try.func68,Try.ntmps68
   go_wp2_with fail
   go_at_call 92;refine HW.out.mono ?_;rintro e1 w2 ⟨rfl,rfl⟩;go_wp2_with fail
   go_at_call 77;refine HK.out.mono ?_;rintro e1 w2 ⟨rfl,hb⟩;have HA:=zh (OwnV.new w2 9 (keyWords.map fun s=>Value.string (bstr s)));have Hb:=zh (hb.alloc hb.size (.cells (keyWords.map fun s=>Value.string (bstr s)).toArray 9));clear hb;go_wp2_with fail
   go_loopw [2,4,14,15,16,17,18,19,20,21,22,23,24,25] (fun _ t4 _ _ _ _ _ _ _ _ _ _ _ _ wr=>∃ k:Nat,k<=12/\t4=.int .i64 k/\Hid (final=decide (zai s (keyWords.drop k) k=0))/\Hid (OwnV wr w2.heap.size 9 (keyWords.map fun s=>Value.string (bstr s)))/\Hid (Below w.heap.size w wr)) (fun _ t4 _ _ _ _ _ _ _ _ _ _ _ _ _=>12 - (intOf t4).toNat)
   case atStart=>exact ⟨0,by omega,rfl,zh (by rw [Hp.out];rfl),zh HA.out,zh Hb.out⟩
   case round =>
    obtain ⟨k,hk,rfl,Hk,HA,Hb⟩:=hrel;by_cases hlt:k < 12
    ·have hlt1:(k:Int) < 12:=by omega
     have hkl:k < keyWords.length:=hlt;have c0:wr.cell? ⟨w2.heap.size,k,none⟩=some (.string (bstr (keyWords[k]'hkl))):=HA.out.cell (by rw [List.getElem?_map,yD hkl];rfl);have Hst:=zh (zc5 (s:=s) (l:=keyWords) (k:=k) hkl);obtain ⟨q,hq,hq2⟩:∃ q:Bool,((bstr (keyWords[k]'hkl)).toList == (bstr s).toList)=q/\(q=true ↔ keyWords[k]'hkl=s):=⟨_,rfl,zdP _ _⟩
     generalize keyWords[k]'hkl=kw at *
     have Hq:=zh hq2;clear hq2;cases q
     ·have Hk2:Hid (final=decide (zai s (keyWords.drop (k+1)) (k+1)=0)):=zh (by rw [Hk.out,Hst.out,yN (fun e=>by have:=Hq.out.2 e;cases this)]);go_wp2_with fail
      go_roundw
      case rel=>exact ⟨k+1,by omega,by go_num,zh Hk2.out,zh HA.out,zh Hb.out⟩
      case measure=>simp [intOf];omega
     ·have Hk2:Hid (final=false):=zh (by rw [Hk.out,Hst.out,yP (Hq.out.1 rfl)];rfl);go_wp2_with fail
      go_ret;exact ⟨by rw [Hk2.out];rfl,Hb.out⟩
    ·have hlt1:¬ (k:Int) < 12:=by omega
     have Hk2:Hid (final=true):=zh (by rw [Hk.out,zdq (by show 12<=k;omega)];rfl);go_wp2_with fail
     go_ret;exact ⟨by rw [Hk2.out];rfl,Hb.out⟩
  ·have hk0:0 < kn:=of_decide_eq_true hq;go_enter Try.func68,Try.ntmps68
   go_wp2_with fail
   go_at_call 92;refine HW.out.mono ?_;rintro e1 w2 ⟨rfl,rfl⟩;go_wp2_with fail
   go_at_call 77;refine HK.out.mono ?_;rintro e1 w2 ⟨rfl,hb⟩;go_wp2_with fail
   go_ret;exact ⟨by rw [Hp.out];rfl,hb⟩
theorem zkC (s:List UInt8):∀ (l:List (List UInt8)) (k:Nat),zai s l (k+1)=if zai s l k=0 then 0 else zai s l k+1:=by
 intro l
 induction l with
 | nil=>intro k;rfl
 | cons x l ih =>
  intro k;by_cases h:x=s
  ·simp [zai,h]
  ·simp only [zai,h,if_false];exact ih (k+1)
theorem zgy (l:List (List UInt8)) (s:List UInt8) (v:Value) (w:World) (hS:Strs w l v) (hl:l.length<=1000000) :
  Calls Try.prog 105 #[v,.string (bstr s)] w fun e w'=>e=.returned (.int .i64 ((zai s l 0:Int) - 1))/\w=w':=by
 obtain ⟨a,cap,rfl,hc1,hc2⟩:=Sl.form hS;have HS:=zh hS;obtain ⟨final,hfin⟩:∃ r,zai s l 0=r:=⟨_,rfl⟩;have Hf:Hid (final=zai s (l.drop 0) 0):=zh (by rw [List.drop_zero,hfin]);rw [hfin];clear hfin hS;go_enter Try.func105,Try.ntmps105
 go_wp2_with fail
 obtain ⟨wq,rfl⟩:∃ wq:World,wq=w:=⟨_,rfl⟩;go_loopw [4,5,8,9,10,11,12,13,14,15,16,17,18] (fun _ _ t8 _ _ _ _ _ _ _ _ _ _ wr=>∃ k:Nat,k<=l.length/\t8=.int .i64 k/\Hid (final=zai s (l.drop k) k)/\wr=wq) (fun _ _ t8 _ _ _ _ _ _ _ _ _ _ _=>l.length - (intOf t8).toNat)
 case atStart=>exact ⟨0,by omega,by first | rfl | go_num,zh Hf.out,rfl⟩
 case round =>
  obtain ⟨k,hk,rfl,Hk,rfl⟩:=hrel;by_cases hlt:k < l.length
  ·obtain ⟨b,off,rfl,hcell⟩:=Strs.cell HS.out (by omega);have hlt1:(k:Int) < l.length:=by omega
   have c0:=hcell k hlt;have Hst:=zh (zc5 (s:=s) (l:=l) (k:=k) hlt);obtain ⟨q,hq,hq2⟩:∃ q:Bool,((bstr s).toList == (bstr l[k]).toList)=q/\(q=true ↔ l[k]=s):=⟨_,rfl,by rw [zdP];exact eq_comm⟩
   generalize l[k]=kw at *
   have Hq:=zh hq2;clear hq2 hcell;cases q
   ·have Hk2:Hid (final=zai s (l.drop (k+1)) (k+1)):=zh (by rw [Hk.out,Hst.out,yN (fun e=>by have:=Hq.out.2 e;cases this)]);go_wp2_with fail
    go_roundw
    case rel=>exact ⟨k+1,by omega,by go_num,zh Hk2.out,by first | rfl | trivial⟩
    case measure=>simp [intOf];omega
   ·have Hk2:Hid (final=k+1):=zh (by rw [Hk.out,Hst.out,yP (Hq.out.1 rfl)]);go_wp2_with fail
    go_ret;exact ⟨by rw [Hk2.out];simp;try omega,rfl⟩
  ·have hlt1:¬ (k:Int) < l.length:=by omega
   have Hk2:Hid (final=0):=zh (by rw [Hk.out,zdq (by omega)]);go_wp2_with fail
   go_ret;exact ⟨by rw [Hk2.out];rfl,rfl⟩
theorem zhA (l:List (List UInt8)) (s:List UInt8) (v:Value) (w:World) (hS:Strs w l v) (hl:l.length<=1000000) :
  Calls Try.prog 104 #[v,.string (bstr s)] w fun e w'=>e=.returned (.bool (decide (zai s l 0≠0)))/\w=w':=by
 have H:=zh (zgy l s v w hS hl);obtain ⟨a,cap,rfl,hc1,hc2⟩:=Sl.form hS
 generalize zai s l 0=p at *
 clear hS;obtain ⟨q,hq,hq2⟩:∃ q,decide (1<=(p:Int))=q/\decide (p≠0)=q:=⟨_,rfl,by rw [Bool.eq_iff_iff,yQ,yQ];omega⟩;rw [hq2];clear hq2;go_enter Try.func104,Try.ntmps104
 go_wp2_with fail
 go_at_call 105;refine H.out.mono ?_;rintro e1 w2 ⟨rfl,rfl⟩;go_wp2_with fail
 go_ret;exact ⟨rfl,rfl⟩
def kindWordsP : List (List UInt8) := [] :: kindWords
theorem zgz (w:World):Calls Try.prog 117 #[] w fun e w'=>∃ v,e=.returned v/\Strs w' kindWordsP v/\Below w.heap.size w w':=by
 go_enter Try.func117,Try.ntmps117
 go_wp2;go_ret;refine ⟨_,rfl,?_,(yR _ _).alloc (zr _) _⟩;exact Sl.of_own ((OwnV.new w 9 (kindWordsP.map fun s=>Value.string (bstr s))).own (zr _) rfl rfl (by decide))
theorem zmI (s:List UInt8):max ((zai s kindWordsP 0:Int) - 1) 0=zap s:=by
 unfold kindWordsP;rw [zai];by_cases h:[]=s
 ·rw [yP h,<- h];decide
 ·rw [yN h,zkC];have:zap s=zai s kindWords 0:=rfl;split <;> omega
theorem za5 (s:List UInt8) (w:World):Calls Try.prog 110 #[.string (bstr s)] w fun e w'=>e=.returned (.int .u8 (zap s))/\Below w.heap.size w w':=by
 have HK:=zh (zgz w);have hkp:=zmI s;have hk10:=zdg s
 generalize zap s=final at *
 have HI:Hid (∀ (v:Value) (w:World),Strs w kindWordsP v->Calls Try.prog 105 #[v,.string (bstr s)] w _):=zh (fun v w h=>zgy kindWordsP s v w h (by decide))
 generalize (zai s kindWordsP 0:Int) - 1=ix at *
 by_cases hix:0<=ix
 ·obtain rfl:ix=(final:Int):=by omega
  go_enter Try.func110,Try.ntmps110
  go_wp2_with fail
  go_at_call 117;refine HK.out.mono ?_;rintro e1 w2 ⟨v,rfl,hS,hb⟩;have Hb:=zh hb;have HI2:=zh (HI.out v w2 hS);clear hb hS HI;go_wp2_with fail
  go_at_call 105;refine HI2.out.mono ?_;rintro e2 w3 ⟨rfl,rfl⟩;go_wp2_with fail
  go_ret;exact ⟨rfl,Hb.out⟩
 ·have hf0:final=0:=by omega
  subst hf0;go_enter Try.func110,Try.ntmps110
  go_wp2_with fail
  go_at_call 117;refine HK.out.mono ?_;rintro e1 w2 ⟨v,rfl,hS,hb⟩;have Hb:=zh hb;have HI2:=zh (HI.out v w2 hS);clear hb hS HI;go_wp2_with fail
  go_at_call 105;refine HI2.out.mono ?_;rintro e2 w3 ⟨rfl,rfl⟩;go_wp2_with fail
  go_ret;exact ⟨rfl,Hb.out⟩
theorem zdr (s:List UInt8) (w:World):Calls Try.prog 98 #[.string (bstr s)] w fun e w'=>e=.returned (.bool (zaP s))/\Below w.heap.size w w':=by
 have HW:Hid (∀ w:World,_):=zh (fun w:World=>zlg (bstr s) w);obtain ⟨p,hp,Hp⟩:∃ p:Bool,za4 s=p/\Hid (zaP s=(p && decide (zap s=0) && decide (zai s keyWords 0=0))):=⟨_,rfl,zh rfl⟩;rw [zdn,hp] at HW;clear hp;have HK:Hid (∀ w:World,_):=zh (fun w:World=>za5 s w);obtain ⟨q,hq,hq2⟩:∃ q:Bool,((zap s:Int) == 0)=q/\decide (zap s=0)=q:=⟨_,rfl,by rw [Bool.eq_iff_iff,yQ,beq_iff_eq];omega⟩;rw [hq2] at Hp;have hk10:=zdg s;have HC:Hid (∀ (v:Value) (w:World),Strs w keyWords v->Calls Try.prog 104 #[v,.string (bstr s)] w _):=zh (fun v w h=>zhA keyWords s v w h (by decide));obtain ⟨r,hr,hr2⟩:∃ r:Bool,decide (zai s keyWords 0≠0)=r/\decide (zai s keyWords 0=0) = !r:=⟨_,rfl,by rw [Bool.eq_iff_iff];simp⟩;rw [hr] at HC;rw [hr2] at Hp
 generalize zap s=kn at *
 generalize zaP s=final at Hp ⊢;have HB0:Hid (Below w.heap.size w (w.alloc (.cells (keyWords.map fun s=>Value.string (bstr s)).toArray 9))):=zh ((yR _ _).alloc (zr _) _);have HS0:Hid (Strs (w.alloc (.cells (keyWords.map fun s=>Value.string (bstr s)).toArray 9)) keyWords (.slice (some ⟨w.heap.size,0,none⟩) 12 12)):=zh (Sl.of_own ((OwnV.new w 9 (keyWords.map fun s=>Value.string (bstr s))).own (zr _) rfl rfl (by decide)));clear hq2 hr hr2;cases p
 ·go_enter Try.func98,Try.ntmps98
  go_wp2_with fail
  go_at_call 109;refine (HW.out _).mono ?_;rintro e1 w2 ⟨rfl,rfl⟩;go_wp2_with fail
  go_ret;exact ⟨by rw [Hp.out];rfl,HB0.out⟩
 ·cases q
  ·go_enter Try.func98,Try.ntmps98
   go_wp2_with fail
   go_at_call 109;refine (HW.out _).mono ?_;rintro e1 w2 ⟨rfl,rfl⟩;go_wp2_with fail
   go_at_call 110;refine (HK.out _).mono ?_;rintro e2 w3 ⟨rfl,hb3⟩;have HB3:=zh (HB0.out.trans (hb3.mono HB0.out.size));clear hb3;go_wp2_with fail
   go_ret;exact ⟨by rw [Hp.out];rfl,HB3.out⟩
  ·go_enter Try.func98,Try.ntmps98
   go_wp2_with fail
   go_at_call 109;refine (HW.out _).mono ?_;rintro e1 w2 ⟨rfl,rfl⟩;go_wp2_with fail
   go_at_call 110;refine (HK.out _).mono ?_;rintro e2 w3 ⟨rfl,hb3⟩;have HS3:=zh (Sl.below (by omega) HS0.out hb3 (zr _));have HB3:=zh (HB0.out.trans (hb3.mono HB0.out.size));clear hb3;go_wp2_with fail
   go_at_call 104;refine (HC.out _ _ HS3.out).mono ?_;rintro e3 w4 ⟨rfl,rfl⟩;go_wp2_with fail
   go_ret;exact ⟨by rw [Hp.out];rfl,HB3.out⟩
def Good (l : List Tok) : Prop := ∃ ts t, l = ts ++ [t] /\ t.kind = 4 /\ ∀ u ∈ ts, u.kind ≠ 4
theorem zgS {t:Tok} {r:LexR} {l:List Tok} (h:r.cons t=.ok l):∃ m,r=.ok m/\l=t :: m:=by
 cases r with
 | ok m=>exact ⟨m,rfl,by simpa [LexR.cons] using h.symm⟩
 | err a b c=>cases h
theorem Good.push {t:Tok} {l:List Tok} (h:Good l) (ht:t.kind≠4):Good (t :: l):=by
 obtain ⟨ts,u,rfl,h1,h2⟩:=h;refine ⟨t :: ts,u,rfl,h1,fun v hv=>?_⟩;rcases List.mem_cons.1 hv with rfl | hv
 ·exact ht
 ·exact h2 v hv
theorem zmJ {go:List UInt8->Int->Int->LexR} (hgo:∀ bs a b l,go bs a b=.ok l->Good l) {bs:List UInt8} {a b:Int} {l:List Tok} (h:zaK go bs a b=.ok l):Good l:=by
 cases bs with
 | nil =>
  simp only [zaK,LexR.ok.injEq] at h
  exact ⟨[],_,h.symm,rfl,fun u hu=>absurd hu (by simp)⟩
 | cons x r =>
  simp only [zaK] at h;split at h
  ·split at h
   ·cases h
   ·obtain ⟨m,hm,rfl⟩:=zgS h;exact (hgo _ _ _ _ hm).push (by show (1:Int)≠4;decide)
  ·split at h
   ·split at h
    ·cases h
    ·obtain ⟨m,hm,rfl⟩:=zgS h;exact (hgo _ _ _ _ hm).push (by show (2:Int)≠4;decide)
   ·split at h
    ·cases h
    ·obtain ⟨m,hm,rfl⟩:=zgS h;exact (hgo _ _ _ _ hm).push (by show (3:Int)≠4;decide)
theorem znu:∀ (f:Nat) (bs:List UInt8) (a b:Int) (l:List Tok),zbr f bs a b=.ok l->Good l:=by
 intro f
 induction f with
 | zero=>intro bs a b l h;cases h
 | succ f ih =>
  intro bs a b l h;rw [zbr] at h;exact zmJ (fun bs a b l h=>ih bs a b l h) h
theorem ziD {bs:List UInt8} {l:List Tok} (h:lexS bs=.ok l):Good l:=by
 unfold lexS at h;split at h
 ·cases h
 ·exact znu _ _ _ _ _ h
theorem Good.next {l:List Tok} (h:Good l) {i:Nat} (hi:i < l.length) (hk:(zaa l i).kind≠4):i+1 < l.length:=by
 obtain ⟨ts,t,rfl,h1,h2⟩:=h;rcases Nat.lt_or_ge (i+1) (ts++[t]).length with h | h
 ·exact h
 ·exfalso;have e:i=ts.length:=by simp at hi h;omega
  subst e;apply hk;unfold zaa;simp [h1]
theorem Good.is_next {l:List Tok} (h:Good l) {i:Nat} (hi:i < l.length) {s:List UInt8} (hs:isS l i s=true):i+1 < l.length:=by
 refine h.next hi (fun e=>?_);unfold isS at hs;rw [e] at hs;simp at hs
def zb4 (l : List Tok) (i : Nat) (w w' : World) (e : Ending) : PR Ex -> Prop
  | .ok x j => ∃ v, e = .returned (.tuple #[v, .int .i64 j, .int .i64 0]) /\ ExV w' (fun g => w.heap.size <= g) x v /\ i < j /\ j < l.length
  | .err a c => ∃ (op n : Int) (nm : ByteArray) (ad : Option Addr) (m cp : Nat), e = .returned (.tuple #[.agg #[.int .u8 op, .int .i64 n, .string nm, .slice ad m cp], .int .i64 a, .int .i64 c]) /\ (c = 120 ∨ c = 121) /\ a < l.length
def ExsE (l : List Tok) (i : Nat) (w w' : World) (e : Ending) : PR (List Ex) -> Prop
  | .ok xs j => ∃ v, e = .returned (.tuple #[v, .int .i64 j, .int .i64 0]) /\ (∃ cs, w'.ownsRow w.heap.size 65 4 v xs.length cs /\ ExsC w' (fun g => w.heap.size <= g /\ v.ownBlock ≠ some g) xs cs) /\ i < j /\ j < l.length
  | .err a c => e = .returned (.tuple #[.slice none 0 0, .int .i64 a, .int .i64 c]) /\ (c = 120 ∨ c = 121) /\ a < l.length
def ExprC (l : List Tok) (E : Nat -> Nat -> Nat -> PR Ex) (i : Nat) : Prop :=
  ∀ (k o least : Nat) (v : Value) (w : World), i < k -> k < l.length -> o <= 300 -> least <= 6 -> Toks w l v ->
    Calls Try.prog 95 #[v, .int .i64 k, .int .i64 o, .int .i64 least] w fun e w' => zb4 l k w w' e (E k o least) /\ Below w.heap.size w w'
theorem ExprC.mono {l:List Tok} {E:Nat->Nat->Nat->PR Ex} {i j:Nat} (h:ExprC l E i) (hij:i<=j):ExprC l E j:=
 fun k o least v w h1 h2 h3 h4 h5=>h k o least v w (by omega) h2 h3 h4 h5
theorem ExsC.weak1 {w:World} {P Q:Nat->Prop} {xs:List Ex} {cs:List Value} (h:ExsC w (fun g=>P g/\Q g) xs cs):ExsC w P xs cs:=h.weak fun _ _ h=>h.1
theorem zck {w:World} {B:Nat} {e:TypeId} {sz:Nat} {v:Value} {n:Nat} {cs:List Value} (h:w.ownsRow B e sz v n cs):∀ g,v.ownBlock=some g->B<=g:=fun g hg=>(h.lt g hg).1
theorem zfV {wr w2 W0 w3:World} {B:Nat} {e:TypeId} {v v':Value} {k:Nat} {xs:List Ex} {x:Ex} {cs cx:List Value} (hown:wr.ownsRow B e 4 v k cs) (hX:ExsC wr (fun g=>B<=g/\v.ownBlock≠some g) xs cs)
  (hb2:Below wr.heap.size wr w2) (hX2:ExsC w2 (fun g=>wr.heap.size<=g) [x] cx) (hB:B<=wr.heap.size) (hb3:Below w2.heap.size w2 W0)
  (hg:W0.grownBy w3 v.ownBlock) (hat:v'.ownBlock=v.ownBlock∨∃ g,v'.ownBlock=some g/\W0.heap.size<=g):ExsC w3 (fun g=>B<=g/\v'.ownBlock≠some g) (xs++[x]) (cs++cx):=by
 have hlt:∀ g,v.ownBlock=some g->g < wr.heap.size:=fun g hg=>(hown.lt g hg).2
 have h1:ExsC W0 (fun g=>B<=g/\v.ownBlock≠some g) xs cs:=(hX.under hb2 (zr _)).under hb3 (zr _);have h2:ExsC W0 (fun g=>B<=g/\v.ownBlock≠some g) [x] cx:=(hX2.under hb3 (zr _)).weak fun g _ h=>⟨yT hB h,fun e=>by have:=hlt g e;omega⟩
 have h3:ExsC W0 (fun g=>(B<=g/\v'.ownBlock≠some g)/\v.ownBlock≠some g) (xs++[x]) (cs++cx):=(h1.append h2).weak fun g hlt h=>⟨⟨h.1,fun e=>by
  rcases hat with hat | ⟨g',hg',hle⟩
  ·exact h.2 (hat ▸ e)
  ·rw [hg'] at e;cases e;omega⟩,h.2⟩
 exact (h3.grown hg (fun g e h=>h.2 e)).weak fun g _ h=>h.1
theorem ziF {wr w2 W0 w3:World} {B:Nat} {e:TypeId} {v v':Value} {k:Nat} {xs:List St} {x:St} {cs cx:List Value} (hown:wr.ownsRow B e 6 v k cs) (hX:StsC wr (fun g=>B<=g/\v.ownBlock≠some g) xs cs)
  (hb2:Below wr.heap.size wr w2) (hX2:StsC w2 (fun g=>wr.heap.size<=g) [x] cx) (hB:B<=wr.heap.size) (hb3:Below w2.heap.size w2 W0)
  (hg:W0.grownBy w3 v.ownBlock) (hat:v'.ownBlock=v.ownBlock∨∃ g,v'.ownBlock=some g/\W0.heap.size<=g):StsC w3 (fun g=>B<=g/\v'.ownBlock≠some g) (xs++[x]) (cs++cx):=by
 have hlt:∀ g,v.ownBlock=some g->g < wr.heap.size:=fun g hg=>(hown.lt g hg).2
 have h1:StsC W0 (fun g=>B<=g/\v.ownBlock≠some g) xs cs:=(hX.under hb2 (zr _)).under hb3 (zr _);have h2:StsC W0 (fun g=>B<=g/\v.ownBlock≠some g) [x] cx:=(hX2.under hb3 (zr _)).weak fun g _ h=>⟨yT hB h,fun e=>by have:=hlt g e;omega⟩
 have h3:StsC W0 (fun g=>(B<=g/\v'.ownBlock≠some g)/\v.ownBlock≠some g) (xs++[x]) (cs++cx):=(h1.append h2).weak fun g hlt h=>⟨⟨h.1,fun e=>by
  rcases hat with hat | ⟨g',hg',hle⟩
  ·exact h.2 (hat ▸ e)
  ·rw [hg'] at e;cases e;omega⟩,h.2⟩
 exact (h3.grown hg (fun g e h=>h.2 e)).weak fun g _ h=>h.1
theorem ExsC.one {w:World} {P:Nat->Prop} {x:Ex} {cs:List Value} (h:ExsC w P [x] cs):∃ (op n:Int) (name:List UInt8) (args:List Ex) (aa:Option Addr) (cp:Nat),x=.mk op n name args/\cs=[.int .u8 op,.int .i64 n,.string (bstr name),.slice aa args.length cp]:=by
 cases h with
 | cons g1 g2 g3 g4 =>
 cases g4;obtain ⟨aa,acap,rfl,-,-⟩:=Sl.form g1;exact ⟨_,_,_,_,aa,acap,rfl,rfl⟩
theorem StsC.one {w:World} {P:Nat->Prop} {x:St} {cs:List Value} (h:StsC w P [x] cs):∃ (op n:Int) (name:List UInt8) (es:List Ex) (body els:List St) (ae ab al:Option Addr) (pe pb pl:Nat),x=.mk op n name es body els/\cs=[.int .u8 op,.int .i64 n,.string (bstr name),.slice ae es.length pe,.slice ab body.length pb,.slice al els.length pl]:=by
 cases h with
 | cons g1 g2 g3 b1 b2 b3 l1 l2 l3 g4 =>
 cases g4;obtain ⟨ae,pe,rfl,-,-⟩:=Sl.form g1;obtain ⟨ab,pb,rfl,-,-⟩:=Sl.form b1;obtain ⟨al,pl,rfl,-,-⟩:=Sl.form l1;exact ⟨_,_,_,_,_,_,ae,ab,al,pe,pb,pl,rfl,rfl⟩
theorem zcx {w:World} {P:Nat->Prop} {op n:Int} {name:List UInt8}:ExV w P (.mk op n name []) (.agg #[.int .u8 op,.int .i64 n,.string (bstr name),.slice none 0 0]):=⟨_,rfl,.cons (Sl.nil w 4) (.inl rfl) .nil .nil⟩
theorem ziE {l:List Tok} {E:Nat->Nat->Nat->PR Ex} {o:Nat} {s:List UInt8}:∀ (m:Nat) (xs:List Ex) (i:Nat) {ys:List Ex} {j:Nat},zav l E o s m xs i=.ok ys j->ys.length=xs.length+m:=by
 intro m
 induction m with
 | zero=>intro xs i ys j h;rw [zav] at h;split at h <;> cases h;rfl
 | succ m ih =>
  intro xs i ys j h;rw [zav] at h;split at h
  ·rename_i hx
   cases hE:E i (o+1) 1 with
   | err a c=>rw [hE] at h;cases h
   | ok x j2 =>
    rw [hE] at h;have:=ih _ _ h;rw [hx];simp only [List.length_singleton] at this;simp only [yL];omega
  ·split at h
   ·cases h
   ·cases hE:E (i+1) (o+1) 1 with
    | err a c=>rw [hE] at h;cases h
    | ok x j2 =>
     rw [hE] at h;have:=ih _ _ h;rw [yA,List.length_singleton] at this;omega
theorem zdC {l:List Tok} {E:Nat->Nat->Nat->PR Ex} {i o:Nat} {s s':List UInt8} {m:Nat} {ys:List Ex} {j:Nat} (h:zad l E i o s s' m=.ok ys j):ys.length=m:=by
 unfold zad at h
 cases he:zay l i s o with
 | err a c=>rw [he] at h;cases h
 | ok x j2 =>
  rw [he] at h;have:=ziE m [] _ h;simpa using this
end Go.Proofs.Ytdeneckmoejcfaa
