/- The reference parser's small functions, walked: is, kinds, Kind. No condition but the bounds that an index and a string have. -/
import Derived.Test.YtoaojdobjinhfaaGreatDoorLexMPz
set_option linter.unusedSimpArgs false
set_option linter.unusedVariables false
set_option maxRecDepth 100000
namespace Go.Proofs.YtoaojdobjinhfaaGreatDoor
open Go.RowKit

theorem zdP(l m:List UInt8):(bstr l).toList==(bstr m).toList ↔ l=m:=by
 rw[beq_iff_eq,ByteArray.toList_eq,ByteArray.toList_eq,zdn,zdn]
theorem ze8(l:List Tok)(v:Value)(i:Nat)(s:List UInt8)(w:World)(d:Toks w l v)(hi:i<l.length) :
  Calls Tryz.prog 114 #[v,.int .i64 i,.string (bstr s)] w fun e w'=>e=.returned (.bool (isS l i s))/\w=w':=by
 obtain⟨a,cap,rfl,g,m⟩:=Sl.form d;obtain⟨b,u,rfl,A,B,C,z,y⟩:=zaF d hi;have j:(i:Int)<l.length:=by omega
 obtain⟨p,q,hp,D,f⟩:∃p q:Bool,((zaa l i).kind != 4)=p/\((bstr (zaa l i).text).toList==(bstr s).toList)=q/\isS l i s=(p&&q):=by
  refine⟨_,_,rfl,rfl,?_⟩;unfold isS;congr 1
  ·rw[Bool.eq_iff_iff];simp
  ·rw[Bool.eq_iff_iff,yQ];exact(zdP _ _).symm
 rw[f];clear f;cases p
 ·go_enter Tryz.func114,Tryz.ntmps114
  go_wp2;go_ret;exact⟨rfl,rfl⟩
 ·cases q
  all_goals
   go_enter Tryz.func114,Tryz.ntmps114
   go_wp2_with fail
   go_ret;exact⟨rfl,rfl⟩
def Strs (w : World) (l : List (List UInt8)) (v : Value) : Prop := Sl w 1 l.length (l.map fun s => Value.string (bstr s)) v
theorem zlN(w:World):Calls Tryz.prog 51 #[] w fun e w'=>∃v,e=.returned v/\Strs w' kindWords v/\Below w.heap.size w w':=by
 go_enter Tryz.func51,Tryz.ntmps51
 go_wp2;go_ret;refine⟨_,rfl,?_,(yR _ _).alloc (zr _) _⟩;exact Sl.of_own ((OwnV.new w 9 (kindWords.map fun s=>Value.string (bstr s))).own (zr _) rfl rfl (by decide))
theorem zc5{s:List UInt8}{l:List (List UInt8)}{k:Nat}(h:k<l.length):zai s (l.drop k) k=if l[k]=s then k+1 else zai s (l.drop (k+1)) (k+1):=by
 rw[List.drop_eq_getElem_cons h,zai]
theorem zdq{s:List UInt8}{l:List (List UInt8)}{k:Nat}(h:l.length<=k):zai s (l.drop k) k=0:=by
 rw[List.drop_of_length_le h,zai]
theorem Strs.cell{w:World}{l:List (List UInt8)}{a:Option Addr}{m cap:Nat}(h:Strs w l (.slice a m cap))(i:0<l.length) :
  ∃b d,a=some ⟨b,d,none⟩/\∀(k:Nat) (h:k<l.length),w.cell? ⟨b,d+k,none⟩=some (.string (bstr l[k])):=by
 obtain⟨b,d,rfl,g,f⟩:=Sl.at (by omega) h i;refine⟨b,d,rfl,fun k hk=>?_⟩;rw[f k (by omega),List.getElem?_map,yD hk];rfl
theorem zfT:kindWords.length=10:=rfl
theorem zb6(s:List UInt8)(w:World):Calls Tryz.prog 24 #[.string (bstr s)] w fun e w'=>e=.returned (.int .u8 (zap s))/\Below w.heap.size w w':=by
 have I:=zh (zlN w);have E:Hid (zap s=zai s (kindWords.drop 0) 0):=zh rfl;generalize zap s=d at E ⊢;go_enter Tryz.func24,Tryz.ntmps24
 go_wp2_with fail
 go_at_call 51;refine I.out.mono ?_;rintro M w2⟨v,rfl,hS,D⟩;obtain⟨a,cap,rfl,z,H⟩:=Sl.form hS;obtain⟨b,G,rfl,f⟩:=Strs.cell hS (by decide);have j:=zh f;have F:=zh D;rw[zfT] at z;simp only[zfT];clear f D hS;go_wp2_with fail
 obtain⟨A,rfl⟩:∃A:World,A=w2:=⟨_,rfl⟩;go_loopw [2,4,6,7,8,9,10,11,12,13,14,15,16,17,18,19,20] (fun _ t4 _ _ _ _ _ _ _ _ _ _ _ _ _ _ _ wr=>∃k:Nat,k<=10/\t4=.int .i64 k/\Hid (d=zai s (kindWords.drop k) k)/\wr=A) (fun _ t4 _ _ _ _ _ _ _ _ _ _ _ _ _ _ _ _=>10-(intOf t4).toNat)
 case atStart=>exact⟨0,by omega,rfl,zh E.out,rfl⟩
 case round =>
  obtain⟨k,J,rfl,B,rfl⟩:=hrel;by_cases g:k<10
  ·have u:(k:Int)<10:=by omega
   have L:=j.out k g;have m:=zh (zc5 (s:=s) (l:=kindWords) (k:=k) g);obtain⟨q,N,y⟩:∃q:Bool,((bstr (kindWords[k]'g)).toList==(bstr s).toList)=q/\(q=true ↔ kindWords[k]'g=s):=⟨_,rfl,zdP _ _⟩
   generalize kindWords[k]'g=K at *
   have C:=zh y;clear y;cases q
   ·have i:Hid (d=zai s (kindWords.drop (k+1)) (k+1)):=zh (by rw[B.out,m.out,yN (fun e=>by have:=C.out.2 e;cases this)]);go_wp2_with fail
    go_roundw
    case rel=>exact⟨k+1,by omega,by go_num,zh i.out,by first|rfl|trivial⟩
    case measure=>simp[intOf];omega
   ·have i:Hid (d=k+1):=zh (by rw[B.out,m.out,yP (C.out.1 rfl)]);go_wp2_with fail
    go_ret;exact⟨by rw[i.out];simp;try omega,F.out⟩
  ·have u:¬(k:Int)<10:=by omega
   have i:Hid (d=0):=zh (by rw[B.out,zdq (by rw[zfT];omega)]);go_wp2_with fail
   go_ret;exact⟨by rw[i.out];rfl,F.out⟩
def zcf (t : Tok) : Nat := if t.kind = 3 then zai t.text signWords 0 else 0
def twoE (n : Nat) : Ending := .returned (.tuple #[.int .u8 ((if n = 0 then 0 else 9 + n : Nat) : Int), .int .i64 ((strongs.getD n 0 : Nat) : Int)])
theorem zjI(t:Tok)(w:World):Calls Tryz.prog 117 #[.agg #[.int .u8 t.kind,.string (bstr t.text),.int .i64 t.n,.int .i64 t.line,.int .i64 t.col]] w fun e w' =>
  e=twoE (zcf t)/\Below w.heap.size w w':=by
 by_cases F:t.kind=3
 ·have P:(t.kind != 3)=false:=by simp [F]
  have T:Hid (zcf t=zai t.text (signWords.drop 0) 0):=zh (by unfold zcf;rw[yP F];rfl);clear F;generalize zcf t=g at T ⊢;have N:∀o,(w.alloc o).heap.size=w.heap.size+1:=by intro o;simp
  have s2:∀o p,((w.alloc o).alloc p).heap.size=w.heap.size+1+1:=by intro o p;simp
  have H:=zh (OwnV.new w 93 (Tok.cells t));have E:=zh (OwnV.new (w.alloc (.cells (Tok.cells t).toArray 93)) 9 (signWords.map fun s=>Value.string (bstr s)));have z:=zh (OwnV.new ((w.alloc (.cells (Tok.cells t).toArray 93)).alloc (.cells (signWords.map fun s=>Value.string (bstr s)).toArray 9)) 3 (strongs.tail.map fun(n:Nat)=>Value.int .i64 n));rw[N] at E;rw[s2] at z;clear N s2;go_enter Tryz.func117,Tryz.ntmps117
  go_wp2_with fail
  go_loopw [2,3,6,12,13,14,15,16,17,18,19,20,21,22,23,24,25,26,27,28,29,30,31] (fun _ _ t6 _ _ _ _ _ _ _ _ _ _ _ _ _ _ _ _ _ _ _ _ wr=>∃k:Nat,k<=13/\t6=.int .i64 k/\Hid (g=zai t.text (signWords.drop k) k)/\Hid (OwnV wr w.heap.size 93 (Tok.cells t))/\Hid (OwnV wr (w.heap.size+1) 9 (signWords.map fun s=>Value.string (bstr s)))/\Hid (OwnV wr (w.heap.size+1+1) 3 (strongs.tail.map fun(n:Nat)=>Value.int .i64 n))/\Below w.heap.size w wr) (fun _ _ t6 _ _ _ _ _ _ _ _ _ _ _ _ _ _ _ _ _ _ _ _ _=>13-(intOf t6).toNat)
  case atStart=>exact⟨0,by omega,rfl,zh T.out,zh ((H.out.alloc _).alloc _),zh (E.out.alloc _),zh z.out,(((yR _ _).alloc (zr _) _).alloc (by simp) _).alloc (by simp;omega) _⟩
  case round =>
   obtain⟨k,P,rfl,K,H,E,z,S⟩:=hrel;have L:=zh S;clear S;have M:w.heap.size<=wr.heap.size:=L.out.size;by_cases B:k<13
   ·have C:(k:Int)<13:=by omega
    have i:k<signWords.length:=B;have R:wr.cell? ⟨w.heap.size,1,none⟩=some (.string (bstr t.text)):=H.out.cell rfl;have U:wr.cell? ⟨w.heap.size+1,k,none⟩=some (.string (bstr (signWords[k]'i))):=E.out.cell (by rw[List.getElem?_map,yD i];rfl);have A:=zh (zc5 (s:=t.text) (l:=signWords) (k:=k) i);obtain⟨q,hq,G⟩:∃q:Bool,((bstr (signWords[k]'i)).toList==(bstr t.text).toList)=q/\(q=true ↔ signWords[k]'i=t.text):=⟨_,rfl,zdP _ _⟩
    generalize signWords[k]'i=Z at *
    have O:=zh G;clear G;go_wp2_with fail
    refine zac (fun w'=>Below wr.heap.size wr w') (by kernel_rfl) (by kernel_rfl) ((yR _ _).drew) ?_
    repeat
     try simp only[Act.put,zs1,zs3,zs2]
     apply stepsSeq.cons
     ·intro w' d;have f:=zh d;have Y:=Below.keep d R;have X:=Below.keep d U;simp only[Act.put,zs1,zs3,zs2];go_wp2_with (fail)
      first|exact⟨rfl,f.out⟩|exact⟨rfl,f.out.trans (hb2.mono f.out.size)⟩
    try simp only[Act.put,zs1,zs3,zs2]
    refine stepsSeq.nil ?_;intro w' d;have u:=zh (L.out.trans (d.mono M));clear R U;cases q
    ·have m:Hid (g=zai t.text (signWords.drop (k+1)) (k+1)):=zh (by rw[K.out,A.out,yN (fun e=>by have:=O.out.2 e;cases this)]);go_wp2_with fail
     go_roundw
     case rel=>exact⟨k+1,by omega,by go_num,zh m.out,zh (H.out.below d (zr _)),zh (E.out.below d (zr _)),zh (z.out.below d (zr _)),u.out⟩
     case measure=>simp[intOf];omega
    ·have m:Hid (g=k+1):=zh (by rw[K.out,A.out,yP (O.out.1 rfl)]);have J:=zh (z.out.below d (zr _))
     have y:Hid ((strongs.tail.map fun(n:Nat)=>Value.int .i64 n)[k]? = some (.int .i64 ((strongs.getD (k+1) 0:Nat):Int))):=zh (by
      have:∀j:Fin 13,strongs.tail[j.val]? = some (strongs.getD (j.val+1) 0):=by decide
      rw[List.getElem?_map,this ⟨k,B⟩];rfl)
     obtain⟨D,I⟩:∃D:World,D=w':=⟨_,rfl⟩;subst I;have Q:D.cell? ⟨w.heap.size+1+1,k,none⟩=some (.int .i64 ((strongs.getD (k+1) 0:Nat):Int)):=J.out.cell y.out;clear d;go_wp2_with fail
     refine zac (fun w'=>Below D.heap.size D w') (by kernel_rfl) (by kernel_rfl) ((yR _ _).drew) ?_
     repeat
      try simp only[Act.put,zs1,zs3,zs2]
      apply stepsSeq.cons
      ·intro w' d;have f:=zh d;have W:=Below.keep d Q;simp only[Act.put,zs1,zs3,zs2];go_wp2_with (fail)
       first|exact⟨rfl,f.out⟩|exact⟨rfl,f.out.trans (hb2.mono f.out.size)⟩
     try simp only[Act.put,zs1,zs3,zs2]
     refine stepsSeq.nil ?_;intro w' d;clear Q;go_wp2_with fail
     exact yE (v:=.tuple #[.int .u8 (10+(k:Int)),.int .i64 ((strongs.getD (k+1) 0:Nat):Int)]) (by simp[results,Tryz.results117,go_sem]) rfl ⟨by rw[m.out,twoE,yN (by omega),show((9+(k+1):Nat):Int)=10+(k:Int) by omega],u.out.trans (d.mono (by have:=u.out.size;omega))⟩
   ·have C:¬(k:Int)<13:=by omega
    have m:Hid (g=0):=zh (by rw[K.out,zdq (by show 13<=k;omega)]);go_wp2_with fail
    exact yE (v:=.tuple #[.int .u8 0,.int .i64 0]) (by simp[results,Tryz.results117,go_sem]) rfl ⟨by first|rfl|(rw[m.out];rfl),L.out⟩
 ·have P:(t.kind != 3)=true:=by simp[F]
  have V:zcf t=0:=by unfold zcf;rw[yN F]
  rw[V];go_enter Tryz.func117,Tryz.ntmps117
  go_wp2_with fail
  exact yE (v:=.tuple #[.int .u8 0,.int .i64 0]) (by simp[results,Tryz.results117,go_sem]) rfl ⟨rfl,(yR _ _).alloc (zr _) _⟩
def zcE : PR Unit -> Ending
  | .ok _ n => .returned (.tuple #[.int .i64 n, .int .i64 0])
  | .err a c => .returned (.tuple #[.int .i64 a, .int .i64 c])
theorem zd8(l:List Tok)(v:Value)(i:Nat)(s:List UInt8)(o:Nat)(w:World)(z:Toks w l v)(hi:i<l.length)(A:l.length<=4611686018427387904) :
  Calls Tryz.prog 146 #[v,.int .i64 i,.string (bstr s),.int .i64 o] w fun e w'=>e=zcE (zay l i s o)/\w=w':=by
 have g:=zh (ze8 l v i s w z hi);obtain⟨p,hp,j⟩:∃p:Bool,isS l i s=p/\Hid (zay l i s o=if p=false then .err i 120 else if 200<=o then .err i 121 else .ok () (i+1)):=⟨_,rfl,zh rfl⟩;rw[hp] at g;clear hp;generalize zay l i s o=d at j ⊢;have y:(i:Int)<=4611686018427387904:=by omega
 cases p
 ·have f:Hid (d=.err i 120):=zh (by rw[j.out,yP rfl]);go_enter Tryz.func146,Tryz.ntmps146
  go_wp2_with fail
  go_at_call 114;refine g.out.mono ?_;rintro u w2⟨rfl,rfl⟩;go_wp2_with fail
  exact yE (v:=.tuple #[.int .i64 i,.int .i64 120]) (by simp[results,Tryz.results146,go_sem]) rfl ⟨by rw[f.out];rfl,rfl⟩
 ·by_cases q:200<=o
  ·have m:(o:Int) >= 200:=by omega
   have f:Hid (d=.err i 121):=zh (by rw[j.out,yN (by decide),yP q]);go_enter Tryz.func146,Tryz.ntmps146
   go_wp2_with fail
   go_at_call 114;refine g.out.mono ?_;rintro u w2⟨rfl,rfl⟩;go_wp2_with fail
   exact yE (v:=.tuple #[.int .i64 i,.int .i64 121]) (by simp[results,Tryz.results146,go_sem]) rfl ⟨by rw[f.out];rfl,rfl⟩
  ·have m:¬(o:Int) >= 200:=by omega
   have f:Hid (d=.ok () (i+1)):=zh (by rw[j.out,yN (by decide),yN q]);go_enter Tryz.func146,Tryz.ntmps146
   go_wp2_with fail
   go_at_call 114;refine g.out.mono ?_;rintro u w2⟨rfl,rfl⟩;go_wp2_with fail
   exact yE (v:=.tuple #[.int .i64 (i+1),.int .i64 0]) (by simp[results,Tryz.results146,go_sem]) rfl ⟨by rw[f.out];rfl,rfl⟩
theorem zdg(s:List UInt8):zap s<=10:=by
 have d:∀(l:List (List UInt8)) (k:Nat),zai s l k<=l.length+k:=by
  intro l
  induction l with
  | nil=>intro k;exact Nat.zero_le _
  | cons x l ih =>
   intro k;rw[zai,yB];split
   ·omega
   ·have:=ih (k+1);omega
 exact d kindWords 0
theorem zfU(s:List UInt8)(w:World):Calls Tryz.prog 22 #[.string (bstr s)] w fun e w'=>e=.returned (.bool (zaP s))/\Below w.heap.size w w':=by
 have z:=zh (zmj s w);obtain⟨p,hp,v⟩:∃p:Bool,za4 s=p/\Hid (zaP s=(p&&decide (zap s=0)&&decide (zai s (keyWords.drop 0) 0=0))):=⟨_,rfl,zh rfl⟩;rw[hp] at z;clear hp;have J:=zh (zb6 s w)
 obtain⟨q,F,K,i⟩:∃q:Bool,decide (0<zap s)=q/\decide ((zap s:Int)>0)=q/\decide (zap s=0) = !q:=⟨_,rfl,by
  rw[Bool.eq_iff_iff];simp;try omega,by
  rw[Bool.eq_iff_iff];simp⟩
 rw[i] at v;have H:=zdg s
 generalize zap s=I at *
 generalize zaP s=d at v ⊢;cases p
 ·go_enter Tryz.func22,Tryz.ntmps22
  go_wp2_with fail
  go_at_call 48;refine z.out.mono ?_;rintro A w2⟨rfl,rfl⟩;go_wp2_with fail
  go_ret;exact⟨by rw[v.out];rfl,yR _ _⟩
 ·cases q
  ·have E:¬0<I:=of_decide_eq_false F;go_enter Tryz.func22,Tryz.ntmps22
   go_wp2_with fail
   go_at_call 48;refine z.out.mono ?_;rintro A w2⟨rfl,rfl⟩;go_wp2_with fail
   go_at_call 24;refine J.out.mono ?_;rintro A w2⟨rfl,m⟩;have B:=zh (OwnV.new w2 9 (keyWords.map fun s=>Value.string (bstr s)));have y:=zh (m.alloc m.size (.cells (keyWords.map fun s=>Value.string (bstr s)).toArray 9));clear m;go_wp2_with fail
   go_loopw [2,4,14,15,16,17,18,19,20,21,22,23,24,25] (fun _ t4 _ _ _ _ _ _ _ _ _ _ _ _ wr=>∃k:Nat,k<=12/\t4=.int .i64 k/\Hid (d=decide (zai s (keyWords.drop k) k=0))/\Hid (OwnV wr w2.heap.size 9 (keyWords.map fun s=>Value.string (bstr s)))/\Hid (Below w.heap.size w wr)) (fun _ t4 _ _ _ _ _ _ _ _ _ _ _ _ _=>12-(intOf t4).toNat)
   case atStart=>exact⟨0,by omega,rfl,zh (by rw[v.out];rfl),zh B.out,zh y.out⟩
   case round =>
    obtain⟨k,L,rfl,D,B,y⟩:=hrel;by_cases C:k<12
    ·have u:(k:Int)<12:=by omega
     have f:k<keyWords.length:=C;have N:wr.cell? ⟨w2.heap.size,k,none⟩=some (.string (bstr (keyWords[k]'f))):=B.out.cell (by rw[List.getElem?_map,yD f];rfl);have j:=zh (zc5 (s:=s) (l:=keyWords) (k:=k) f);obtain⟨q,F,i⟩:∃q:Bool,((bstr (keyWords[k]'f)).toList==(bstr s).toList)=q/\(q=true ↔ keyWords[k]'f=s):=⟨_,rfl,zdP _ _⟩
     generalize keyWords[k]'f=M at *
     have G:=zh i;clear i;cases q
     ·have g:Hid (d=decide (zai s (keyWords.drop (k+1)) (k+1)=0)):=zh (by rw[D.out,j.out,yN (fun e=>by have:=G.out.2 e;cases this)]);go_wp2_with fail
      go_roundw
      case rel=>exact⟨k+1,by omega,by go_num,zh g.out,zh B.out,zh y.out⟩
      case measure=>simp[intOf];omega
     ·have g:Hid (d=false):=zh (by rw[D.out,j.out,yP (G.out.1 rfl)];rfl);go_wp2_with fail
      go_ret;exact⟨by rw[g.out];rfl,y.out⟩
    ·have u:¬(k:Int)<12:=by omega
     have g:Hid (d=true):=zh (by rw[D.out,zdq (by show 12<=k;omega)];rfl);go_wp2_with fail
     go_ret;exact⟨by rw[g.out];rfl,y.out⟩
  ·have E:0<I:=of_decide_eq_true F;go_enter Tryz.func22,Tryz.ntmps22
   go_wp2_with fail
   go_at_call 48;refine z.out.mono ?_;rintro A w2⟨rfl,rfl⟩;go_wp2_with fail
   go_at_call 24;refine J.out.mono ?_;rintro A w2⟨rfl,m⟩;go_wp2_with fail
   go_ret;exact⟨by rw[v.out];rfl,m⟩
theorem zkC(s:List UInt8):∀(l:List (List UInt8)) (k:Nat),zai s l (k+1)=if zai s l k=0 then 0 else zai s l k+1:=by
 intro l
 induction l with
 | nil=>intro k;rfl
 | cons x l ih =>
  intro k;by_cases h:x=s
  ·simp[zai,h]
  ·simp only[zai,h,if_false];exact ih (k+1)
theorem zgy(l:List (List UInt8))(s:List UInt8)(v:Value)(w:World)(hS:Strs w l v)(I:l.length<=1000000) :
  Calls Tryz.prog 49 #[v,.string (bstr s)] w fun e w'=>e=.returned (.int .i64 ((zai s l 0:Int)-1))/\w=w':=by
 obtain⟨a,cap,rfl,D,F⟩:=Sl.form hS;have E:=zh hS;obtain⟨d,i⟩:∃r,zai s l 0=r:=⟨_,rfl⟩;have G:Hid (d=zai s (l.drop 0) 0):=zh (by rw[List.drop_zero,i]);rw[i];clear i hS;go_enter Tryz.func49,Tryz.ntmps49
 go_wp2_with fail
 obtain⟨z,rfl⟩:∃z:World,z=w:=⟨_,rfl⟩;go_loopw [4,5,8,9,10,11,12,13,14,15,16,17,18] (fun _ _ t8 _ _ _ _ _ _ _ _ _ _ wr=>∃k:Nat,k<=l.length/\t8=.int .i64 k/\Hid (d=zai s (l.drop k) k)/\wr=z) (fun _ _ t8 _ _ _ _ _ _ _ _ _ _ _=>l.length-(intOf t8).toNat)
 case atStart=>exact⟨0,by omega,by first|rfl|go_num,zh G.out,rfl⟩
 case round =>
  obtain⟨k,H,rfl,A,rfl⟩:=hrel;by_cases m:k<l.length
  ·obtain⟨b,C,rfl,f⟩:=Strs.cell E.out (by omega);have u:(k:Int)<l.length:=by omega
   have K:=f k m;have j:=zh (zc5 (s:=s) (l:=l) (k:=k) m);obtain⟨q,L,y⟩:∃q:Bool,((bstr s).toList==(bstr l[k]).toList)=q/\(q=true ↔ l[k]=s):=⟨_,rfl,by rw[zdP];exact eq_comm⟩
   generalize l[k]=J at *
   have B:=zh y;clear y f;cases q
   ·have g:Hid (d=zai s (l.drop (k+1)) (k+1)):=zh (by rw[A.out,j.out,yN (fun e=>by have:=B.out.2 e;cases this)]);go_wp2_with fail
    go_roundw
    case rel=>exact⟨k+1,by omega,by go_num,zh g.out,by first|rfl|trivial⟩
    case measure=>simp[intOf];omega
   ·have g:Hid (d=k+1):=zh (by rw[A.out,j.out,yP (B.out.1 rfl)]);go_wp2_with fail
    go_ret;exact⟨by rw[g.out];simp;try omega,rfl⟩
  ·have u:¬(k:Int)<l.length:=by omega
   have g:Hid (d=0):=zh (by rw[A.out,zdq (by omega)]);go_wp2_with fail
   go_ret;exact⟨by rw[g.out];rfl,rfl⟩
theorem zhA(l:List (List UInt8))(s:List UInt8)(v:Value)(w:World)(hS:Strs w l v)(i:l.length<=1000000) :
  Calls Tryz.prog 47 #[v,.string (bstr s)] w fun e w'=>e=.returned (.bool (decide (zai s l 0≠0)))/\w=w':=by
 have H:=zh (zgy l s v w hS i);obtain⟨a,cap,rfl,f,g⟩:=Sl.form hS
 generalize zai s l 0=p at *
 clear hS;obtain⟨q,m,d⟩:∃q,decide (1<=(p:Int))=q/\decide (p≠0)=q:=⟨_,rfl,by rw[Bool.eq_iff_iff,yQ,yQ];omega⟩;rw[d];clear d;go_enter Tryz.func47,Tryz.ntmps47
 go_wp2_with fail
 go_at_call 49;refine H.out.mono ?_;rintro j w2⟨rfl,rfl⟩;go_wp2_with fail
 go_ret;exact⟨rfl,rfl⟩
def kindWordsP : List (List UInt8) := [] :: kindWords
theorem zgz(w:World):Calls Tryz.prog 50 #[] w fun e w'=>∃v,e=.returned v/\Strs w' kindWordsP v/\Below w.heap.size w w':=by
 go_enter Tryz.func50,Tryz.ntmps50
 go_wp2;go_ret;refine⟨_,rfl,?_,(yR _ _).alloc (zr _) _⟩;exact Sl.of_own ((OwnV.new w 9 (kindWordsP.map fun s=>Value.string (bstr s))).own (zr _) rfl rfl (by decide))
theorem zmI(s:List UInt8):max ((zai s kindWordsP 0:Int)-1) 0=zap s:=by
 unfold kindWordsP;rw[zai];by_cases h:[]=s
 ·rw[yP h,<-h];decide
 ·rw[yN h,zkC];have:zap s=zai s kindWords 0:=rfl;split <;> omega
theorem za5(s:List UInt8)(w:World):Calls Tryz.prog 23 #[.string (bstr s)] w fun e w'=>e=.returned (.int .u8 (zap s))/\Below w.heap.size w w':=by
 have u:=zh (zgz w);have y:=zmI s;have q:=zdg s
 generalize zap s=d at *
 have i:Hid (∀(v:Value) (w:World),Strs w kindWordsP v->Calls Tryz.prog 49 #[v,.string (bstr s)] w _):=zh (fun v w h=>zgy kindWordsP s v w h (by decide))
 generalize (zai s kindWordsP 0:Int)-1=m at *
 by_cases A:0<=m
 ·obtain rfl:m=(d:Int):=by omega
  go_enter Tryz.func23,Tryz.ntmps23
  go_wp2_with fail
  go_at_call 50;refine u.out.mono ?_;rintro C w2⟨v,rfl,hS,g⟩;have l:=zh g;have f:=zh (i.out v w2 hS);clear g hS i;go_wp2_with fail
  go_at_call 49;refine f.out.mono ?_;rintro z B⟨rfl,rfl⟩;go_wp2_with fail
  go_ret;exact⟨rfl,l.out⟩
 ·have j:d=0:=by omega
  subst j;go_enter Tryz.func23,Tryz.ntmps23
  go_wp2_with fail
  go_at_call 50;refine u.out.mono ?_;rintro C w2⟨v,rfl,hS,g⟩;have l:=zh g;have f:=zh (i.out v w2 hS);clear g hS i;go_wp2_with fail
  go_at_call 49;refine f.out.mono ?_;rintro z B⟨rfl,rfl⟩;go_wp2_with fail
  go_ret;exact⟨rfl,l.out⟩
theorem zdr(s:List UInt8)(w:World):Calls Tryz.prog 21 #[.string (bstr s)] w fun e w'=>e=.returned (.bool (zaP s))/\Below w.heap.size w w':=by
 have m:Hid (∀w:World,_):=zh (fun w:World=>zlg (bstr s) w);obtain⟨p,hp,i⟩:∃p:Bool,za4 s=p/\Hid (zaP s=(p&&decide (zap s=0)&&decide (zai s keyWords 0=0))):=⟨_,rfl,zh rfl⟩;rw[zdn,hp] at m;clear hp;have C:Hid (∀w:World,_):=zh (fun w:World=>za5 s w);obtain⟨q,K,l⟩:∃q:Bool,((zap s:Int)==0)=q/\decide (zap s=0)=q:=⟨_,rfl,by rw[Bool.eq_iff_iff,yQ,beq_iff_eq];omega⟩;rw[l] at i;have A:=zdg s;have B:Hid (∀(v:Value) (w:World),Strs w keyWords v->Calls Tryz.prog 47 #[v,.string (bstr s)] w _):=zh (fun v w h=>zhA keyWords s v w h (by decide));obtain⟨r,E,j⟩:∃r:Bool,decide (zai s keyWords 0≠0)=r/\decide (zai s keyWords 0=0) = !r:=⟨_,rfl,by rw[Bool.eq_iff_iff];simp⟩;rw[E] at B;rw[j] at i
 generalize zap s=I at *
 generalize zaP s=u at i ⊢;have f:Hid (Below w.heap.size w (w.alloc (.cells (keyWords.map fun s=>Value.string (bstr s)).toArray 9))):=zh ((yR _ _).alloc (zr _) _);have z:Hid (Strs (w.alloc (.cells (keyWords.map fun s=>Value.string (bstr s)).toArray 9)) keyWords (.slice (some ⟨w.heap.size,0,none⟩) 12 12)):=zh (Sl.of_own ((OwnV.new w 9 (keyWords.map fun s=>Value.string (bstr s))).own (zr _) rfl rfl (by decide)));clear l E j;cases p
 ·go_enter Tryz.func21,Tryz.ntmps21
  go_wp2_with fail
  go_at_call 46;refine(m.out _).mono ?_;rintro D w2⟨rfl,rfl⟩;go_wp2_with fail
  go_ret;exact⟨by rw[i.out];rfl,f.out⟩
 ·cases q
  ·go_enter Tryz.func21,Tryz.ntmps21
   go_wp2_with fail
   go_at_call 46;refine(m.out _).mono ?_;rintro D w2⟨rfl,rfl⟩;go_wp2_with fail
   go_at_call 23;refine(C.out _).mono ?_;rintro F G⟨rfl,d⟩;have g:=zh (f.out.trans (d.mono f.out.size));clear d;go_wp2_with fail
   go_ret;exact⟨by rw[i.out];rfl,g.out⟩
  ·go_enter Tryz.func21,Tryz.ntmps21
   go_wp2_with fail
   go_at_call 46;refine(m.out _).mono ?_;rintro D w2⟨rfl,rfl⟩;go_wp2_with fail
   go_at_call 23;refine(C.out _).mono ?_;rintro F G⟨rfl,d⟩;have y:=zh (Sl.below (by omega) z.out d (zr _));have g:=zh (f.out.trans (d.mono f.out.size));clear d;go_wp2_with fail
   go_at_call 47;refine(B.out _ _ y.out).mono ?_;rintro H J⟨rfl,rfl⟩;go_wp2_with fail
   go_ret;exact⟨by rw[i.out];rfl,g.out⟩
def Good (l : List Tok) : Prop := ∃ ts t, l = ts ++ [t] /\ t.kind = 4 /\ ∀ u ∈ ts, u.kind ≠ 4
theorem zgS{t:Tok}{r:LexR}{l:List Tok}(h:r.cons t=.ok l):∃m,r=.ok m/\l=t::m:=by
 cases r with
 | ok m=>exact⟨m,rfl,by simpa[LexR.cons] using h.symm⟩
 | err a b c=>cases h
theorem Good.push{t:Tok}{l:List Tok}(h:Good l)(ht:t.kind≠4):Good (t::l):=by
 obtain⟨ts,u,rfl,f,d⟩:=h;refine⟨t::ts,u,rfl,f,fun v hv=>?_⟩;rcases List.mem_cons.1 hv with rfl|hv
 ·exact ht
 ·exact d v hv
theorem zmJ{i:List UInt8->Int->Int->LexR}(d:∀g a b l,i g a b=.ok l->Good l){g:List UInt8}{a b:Int}{l:List Tok}(h:zaK i g a b=.ok l):Good l:=by
 cases g with
 | nil =>
  simp only[zaK,LexR.ok.injEq] at h
  exact⟨[],_,h.symm,rfl,fun u hu=>absurd hu (by simp)⟩
 | cons x r =>
  simp only[zaK] at h;split at h
  ·split at h
   ·cases h
   ·obtain⟨m,f,rfl⟩:=zgS h;exact(d _ _ _ _ f).push (by show(1:Int)≠4;decide)
  ·split at h
   ·split at h
    ·cases h
    ·obtain⟨m,f,rfl⟩:=zgS h;exact(d _ _ _ _ f).push (by show(2:Int)≠4;decide)
   ·split at h
    ·cases h
    ·obtain⟨m,f,rfl⟩:=zgS h;exact(d _ _ _ _ f).push (by show(3:Int)≠4;decide)
theorem znu:∀(f:Nat) (d:List UInt8) (a b:Int) (l:List Tok),zbr f d a b=.ok l->Good l:=by
 intro f
 induction f with
 | zero=>intro d a b l h;cases h
 | succ f ih =>
  intro d a b l h;rw[zbr] at h;exact zmJ (fun d a b l h=>ih d a b l h) h
theorem ziD{d:List UInt8}{l:List Tok}(h:lexS d=.ok l):Good l:=by
 unfold lexS at h;split at h
 ·cases h
 ·exact znu _ _ _ _ _ h
theorem Good.next{l:List Tok}(h:Good l){i:Nat}(hi:i<l.length)(d:(zaa l i).kind≠4):i+1<l.length:=by
 obtain⟨ts,t,rfl,f,g⟩:=h;rcases Nat.lt_or_ge (i+1) (ts++[t]).length with h|h
 ·exact h
 ·exfalso;have e:i=ts.length:=by simp at hi h;omega
  subst e;apply d;unfold zaa;simp[f]
theorem Good.is_next{l:List Tok}(h:Good l){i:Nat}(hi:i<l.length){s:List UInt8}(d:isS l i s=true):i+1<l.length:=by
 refine h.next hi (fun e=>?_);unfold isS at d;rw[e] at d;simp at d
def zb4 (l : List Tok) (i : Nat) (w w' : World) (e : Ending) : PR Ex -> Prop
  | .ok x j => ∃ v, e = .returned (.tuple #[v, .int .i64 j, .int .i64 0]) /\ ExV w' (fun g => w.heap.size <= g) x v /\ i < j /\ j < l.length
  | .err a c => ∃ (op n : Int) (nm : ByteArray) (ad : Option Addr) (m cp : Nat), e = .returned (.tuple #[.agg #[.int .u8 op, .int .i64 n, .string nm, .slice ad m cp], .int .i64 a, .int .i64 c]) /\ (c = 120 ∨ c = 121) /\ a < l.length
def ExsE (l : List Tok) (i : Nat) (w w' : World) (e : Ending) : PR (List Ex) -> Prop
  | .ok xs j => ∃ v, e = .returned (.tuple #[v, .int .i64 j, .int .i64 0]) /\ (∃ cs, w'.ownsRow w.heap.size 29 4 v xs.length cs /\ ExsC w' (fun g => w.heap.size <= g /\ v.ownBlock ≠ some g) xs cs) /\ i < j /\ j < l.length
  | .err a c => e = .returned (.tuple #[.slice none 0 0, .int .i64 a, .int .i64 c]) /\ (c = 120 ∨ c = 121) /\ a < l.length
def ExprC (l : List Tok) (E : Nat -> Nat -> Nat -> PR Ex) (i : Nat) : Prop :=
  ∀ (k o least : Nat) (v : Value) (w : World), i < k -> k < l.length -> o <= 300 -> least <= 6 -> Toks w l v ->
    Calls Tryz.prog 72 #[v, .int .i64 k, .int .i64 o, .int .i64 least] w fun e w' => zb4 l k w w' e (E k o least) /\ Below w.heap.size w w'
theorem ExprC.mono{l:List Tok}{E:Nat->Nat->Nat->PR Ex}{i j:Nat}(h:ExprC l E i)(d:i<=j):ExprC l E j:=
 fun k o least v w h1 h2 h3 h4 h5=>h k o least v w (by omega) h2 h3 h4 h5
theorem ExsC.weak1{w:World}{P Q:Nat->Prop}{xs:List Ex}{cs:List Value}(h:ExsC w (fun g=>P g/\Q g) xs cs):ExsC w P xs cs:=h.weak fun _ _ h=>h.1
theorem zck{w:World}{B:Nat}{e:TypeId}{sz:Nat}{v:Value}{n:Nat}{cs:List Value}(h:w.ownsRow B e sz v n cs):∀g,v.ownBlock=some g->B<=g:=fun g hg=>(h.lt g hg).1
theorem zfV{wr w2 f y:World}{B:Nat}{e:TypeId}{v j:Value}{k:Nat}{xs:List Ex}{x:Ex}{cs l:List Value}(hown:wr.ownsRow B e 4 v k cs)(C:ExsC wr (fun g=>B<=g/\v.ownBlock≠some g) xs cs)
  (m:Below wr.heap.size wr w2) (w:ExsC w2 (fun g=>wr.heap.size<=g) [x] l) (F:B<=wr.heap.size) (i:Below w2.heap.size w2 f)
  (q:f.grownBy y v.ownBlock) (d:j.ownBlock=v.ownBlock∨∃g,j.ownBlock=some g/\f.heap.size<=g):ExsC y (fun g=>B<=g/\j.ownBlock≠some g) (xs++[x]) (cs++l):=by
 have hlt:∀g,v.ownBlock=some g->g<wr.heap.size:=fun g q=>(hown.lt g q).2
 have A:ExsC f (fun g=>B<=g/\v.ownBlock≠some g) xs cs:=(C.under m (zr _)).under i (zr _);have z:ExsC f (fun g=>B<=g/\v.ownBlock≠some g) [x] l:=(w.under i (zr _)).weak fun g _ h=>⟨yT F h,fun e=>by have:=hlt g e;omega⟩
 have D:ExsC f (fun g=>(B<=g/\j.ownBlock≠some g)/\v.ownBlock≠some g) (xs++[x]) (cs++l):=(A.append z).weak fun g hlt h=>⟨⟨h.1,fun e=>by
  rcases d with d|⟨G,u,E⟩
  ·exact h.2 (d▸e)
  ·rw[u] at e;cases e;omega⟩,h.2⟩
 exact(D.grown q (fun g e h=>h.2 e)).weak fun g _ h=>h.1
theorem ziF{wr w2 f y:World}{B:Nat}{e:TypeId}{v j:Value}{k:Nat}{xs:List St}{x:St}{cs l:List Value}(hown:wr.ownsRow B e 6 v k cs)(C:StsC wr (fun g=>B<=g/\v.ownBlock≠some g) xs cs)
  (m:Below wr.heap.size wr w2) (w:StsC w2 (fun g=>wr.heap.size<=g) [x] l) (F:B<=wr.heap.size) (i:Below w2.heap.size w2 f)
  (q:f.grownBy y v.ownBlock) (d:j.ownBlock=v.ownBlock∨∃g,j.ownBlock=some g/\f.heap.size<=g):StsC y (fun g=>B<=g/\j.ownBlock≠some g) (xs++[x]) (cs++l):=by
 have hlt:∀g,v.ownBlock=some g->g<wr.heap.size:=fun g q=>(hown.lt g q).2
 have A:StsC f (fun g=>B<=g/\v.ownBlock≠some g) xs cs:=(C.under m (zr _)).under i (zr _);have z:StsC f (fun g=>B<=g/\v.ownBlock≠some g) [x] l:=(w.under i (zr _)).weak fun g _ h=>⟨yT F h,fun e=>by have:=hlt g e;omega⟩
 have D:StsC f (fun g=>(B<=g/\j.ownBlock≠some g)/\v.ownBlock≠some g) (xs++[x]) (cs++l):=(A.append z).weak fun g hlt h=>⟨⟨h.1,fun e=>by
  rcases d with d|⟨G,u,E⟩
  ·exact h.2 (d▸e)
  ·rw[u] at e;cases e;omega⟩,h.2⟩
 exact(D.grown q (fun g e h=>h.2 e)).weak fun g _ h=>h.1
theorem ExsC.one{w:World}{P:Nat->Prop}{x:Ex}{cs:List Value}(h:ExsC w P [x] cs):∃(op n:Int) (name:List UInt8) (args:List Ex) (f:Option Addr) (g:Nat),x=.mk op n name args/\cs=[.int .u8 op,.int .i64 n,.string (bstr name),.slice f args.length g]:=by
 cases h with
 | cons g1 g2 g3 g4 =>
 cases g4;obtain⟨f,d,rfl,-,-⟩:=Sl.form g1;exact⟨_,_,_,_,f,d,rfl,rfl⟩
theorem StsC.one{w:World}{P:Nat->Prop}{x:St}{cs:List Value}(h:StsC w P [x] cs):∃(op n:Int) (name:List UInt8) (es:List Ex) (body els:List St) (g j al:Option Addr) (i f d:Nat),x=.mk op n name es body els/\cs=[.int .u8 op,.int .i64 n,.string (bstr name),.slice g es.length i,.slice j body.length f,.slice al els.length d]:=by
 cases h with
 | cons g1 g2 g3 b1 b2 b3 l1 l2 l3 g4 =>
 cases g4;obtain⟨g,i,rfl,-,-⟩:=Sl.form g1;obtain⟨j,f,rfl,-,-⟩:=Sl.form b1;obtain⟨al,d,rfl,-,-⟩:=Sl.form l1;exact⟨_,_,_,_,_,_,g,j,al,i,f,d,rfl,rfl⟩
theorem zcx{w:World}{P:Nat->Prop}{op n:Int}{name:List UInt8}:ExV w P (.mk op n name []) (.agg #[.int .u8 op,.int .i64 n,.string (bstr name),.slice none 0 0]):=⟨_,rfl,.cons (Sl.nil w 4) (.inl rfl) .nil .nil⟩
theorem ziE{l:List Tok}{E:Nat->Nat->Nat->PR Ex}{o:Nat}{s:List UInt8}:∀(m:Nat) (xs:List Ex) (i:Nat) {ys:List Ex} {j:Nat},zav l E o s m xs i=.ok ys j->ys.length=xs.length+m:=by
 intro m
 induction m with
 | zero=>intro xs i ys j h;rw[zav] at h;split at h <;> cases h;rfl
 | succ m ih =>
  intro xs i ys j h;rw[zav] at h;split at h
  ·rename_i hx
   cases hE:E i (o+1) 1 with
   | err a c=>rw[hE] at h;cases h
   | ok x j2 =>
    rw[hE] at h;have:=ih _ _ h;rw[hx];simp only[List.length_singleton] at this;simp only[yL];omega
  ·split at h
   ·cases h
   ·cases hE:E (i+1) (o+1) 1 with
    | err a c=>rw[hE] at h;cases h
    | ok x j2 =>
     rw[hE] at h;have:=ih _ _ h;rw[yA,List.length_singleton] at this;omega
theorem zdC{l:List Tok}{E:Nat->Nat->Nat->PR Ex}{i o:Nat}{s d:List UInt8}{m:Nat}{ys:List Ex}{j:Nat}(h:zad l E i o s d m=.ok ys j):ys.length=m:=by
 unfold zad at h
 cases he:zay l i s o with
 | err a c=>rw[he] at h;cases h
 | ok x j2 =>
  rw[he] at h;have:=ziE m [] _ h;simpa using this
end Go.Proofs.YtoaojdobjinhfaaGreatDoor
