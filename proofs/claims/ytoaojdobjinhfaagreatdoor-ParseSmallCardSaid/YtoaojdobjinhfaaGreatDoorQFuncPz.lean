/- slices.ContainsFunc over expressions and statements, walked: where the function says of each element what p says. -/
import Derived.Test.YtoaojdobjinhfaaGreatDoorKitCPz
set_option linter.unusedSimpArgs false
set_option linter.unusedVariables false
set_option maxRecDepth 100000
set_option maxHeartbeats 4000000
namespace Go.Proofs.YtoaojdobjinhfaaGreatDoor
open Go.RowKit

theorem zfS{α:Type}{p:α->Bool}{l:List α}{k:Nat}{x:α}(h:l[k]? = some x)(f:(l.take k).any p=false):(p x=false->(l.take (k+1)).any p=false)/\(p x=true->l.any p=true):=by
 obtain⟨d,rfl⟩:=List.getElem?_eq_some_iff.1 h;constructor
 ·intro hp;rw[List.take_succ_eq_append_getElem d,List.any_append,f];simp[hp]
 ·intro hp;rw[List.any_eq_true];exact⟨_,List.getElem_mem d,hp⟩
theorem znn(xs:List Ex)(v:Value)(p:Ex->Bool)(c:Value)(w:World)(B:Nat)(F:EsL w B xs v)(R:B<=w.heap.size)
  (L:∀(k:Nat) (op n:Int) (name:List UInt8) (args:List Ex) (K:Value) (W:World),xs[k]? = some (.mk op n name args)->Below w.heap.size w W->EsL W B args K->Calls Tryz.prog 95 #[.agg #[.int .u8 op,.int .i64 n,.string (bstr name),K],c] W (zbe (p (.mk op n name args)) W)) :
  Calls Tryz.prog 132 #[v,.func (.func 95) #[] #[c]] w fun e w'=>(∃i:Int,e=.returned (.int .i64 i)/\decide (0<=i)=xs.any p)/\Below w.heap.size w w':=by
 obtain⟨a,cap,rfl,Q,S⟩:=F.form;have U:=zh F;have N:=zh L;clear F L;go_enter Tryz.func132,Tryz.ntmps132
 go_wp2_with fail
 go_loopw [4,5,8,9,10,11,12,13,14,15,16,17,18] (fun _ _ t8 _ _ _ _ _ _ _ _ _ _ wr=>∃k:Nat,k<=xs.length/\t8=.int .i64 k/\Hid ((xs.take k).any p=false)/\Hid (Below w.heap.size w wr)) (fun _ _ t8 _ _ _ _ _ _ _ _ _ _ _=>xs.length-(intOf t8).toNat)
 case atStart=>exact⟨0,by omega,by first|rfl|go_num,zh (by simp),zh (yR _ _)⟩
 case round =>
  obtain⟨k,Y,rfl,I,u⟩:=hrel;by_cases D:k<xs.length
  ·have H:(k:Int)<(xs.length:Int):=by omega
   have T:(xs.length:Int)<=9223372036854775807:=by omega
   have A:EsL wr B xs (.slice a xs.length cap):=U.out.low (u.out.mono R);obtain⟨b,O,z,n2,f,d,aa,X,rfl,V,P,y,c0,c1,Z,c3,C⟩:=A.at D;have J:=zh (N.out k z n2 f d _ wr y u.out C);have j:=zh (zfS y I.out)
   generalize p (.mk z n2 f d)=q at *
   clear A C
   cases q with
   | true =>
    have E:=zh (j.out.2 rfl);clear j;go_wp2_with fail
    refine J.out.mono ?_;rintro M w2⟨rfl,g⟩;have m:=zh (u.out.trans (g.mono u.out.size));clear g;go_wp2_with fail
    go_ret
    exact⟨⟨k,rfl,by rw[E.out,yQ];omega⟩,m.out⟩
   | false =>
    have l:=zh (j.out.1 rfl);clear j;go_wp2_with fail
    refine J.out.mono ?_;rintro M w2⟨rfl,g⟩;have m:=zh (u.out.trans (g.mono u.out.size));clear g;go_wp2_with fail
    go_roundw
    case rel=>exact⟨k+1,by omega,by go_num,l,m⟩
    case measure=>simp[intOf];omega
  ·have H:¬(k:Int)<(xs.length:Int):=by omega
   have G:k=xs.length:=by omega
   have l:Hid (xs.any p=false):=zh (by have:=I.out;rw[G,List.take_length] at this;exact this);clear I;go_wp2_with fail
   go_ret;exact⟨⟨-1,rfl,by rw[l.out];rfl⟩,u.out⟩
theorem zkv(xs:List Ex)(v:Value)(p:Ex->Bool)(c:Value)(w:World)(B:Nat)(d:EsL w B xs v)(u:B<=w.heap.size)
  (g:∀(k:Nat) (op n:Int) (name:List UInt8) (args:List Ex) (j:Value) (W:World),xs[k]? = some (.mk op n name args)->Below w.heap.size w W->EsL W B args j->Calls Tryz.prog 95 #[.agg #[.int .u8 op,.int .i64 n,.string (bstr name),j],c] W (zbe (p (.mk op n name args)) W)) :
  Calls Tryz.prog 94 #[v,.func (.func 95) #[] #[c]] w (zbe (xs.any p) w):=by
 obtain⟨a,cap,rfl,m,y⟩:=d.form;have H:=zh (znn xs _ p c w B d u g)
 generalize xs.any p=q at *
 clear d g;go_enter Tryz.func94,Tryz.ntmps94
 go_wp2_with fail
 refine H.out.mono ?_;rintro A w2⟨⟨i,rfl,hi⟩,l⟩;have z:=zh l;have f:decide (i >= 0)=q:=hi;clear l hi;go_wp2_with fail
 go_ret;exact⟨by first|rfl|exact retb f,z.out⟩
theorem zno(xs:List Ex)(v:Value)(p:Ex->Bool)(w:World)(B:Nat)(F:EsL w B xs v)(R:B<=w.heap.size)
  (L:∀(k:Nat) (op n:Int) (name:List UInt8) (args:List Ex) (K:Value) (W:World),xs[k]? = some (.mk op n name args)->Below w.heap.size w W->EsL W B args K->Calls Tryz.prog 125 #[.agg #[.int .u8 op,.int .i64 n,.string (bstr name),K]] W (zbe (p (.mk op n name args)) W)) :
  Calls Tryz.prog 132 #[v,.func (.func 125) #[] #[]] w fun e w'=>(∃i:Int,e=.returned (.int .i64 i)/\decide (0<=i)=xs.any p)/\Below w.heap.size w w':=by
 obtain⟨a,cap,rfl,Q,S⟩:=F.form;have U:=zh F;have N:=zh L;clear F L;go_enter Tryz.func132,Tryz.ntmps132
 go_wp2_with fail
 go_loopw [4,5,8,9,10,11,12,13,14,15,16,17,18] (fun _ _ t8 _ _ _ _ _ _ _ _ _ _ wr=>∃k:Nat,k<=xs.length/\t8=.int .i64 k/\Hid ((xs.take k).any p=false)/\Hid (Below w.heap.size w wr)) (fun _ _ t8 _ _ _ _ _ _ _ _ _ _ _=>xs.length-(intOf t8).toNat)
 case atStart=>exact⟨0,by omega,by first|rfl|go_num,zh (by simp),zh (yR _ _)⟩
 case round =>
  obtain⟨k,Y,rfl,I,u⟩:=hrel;by_cases D:k<xs.length
  ·have H:(k:Int)<(xs.length:Int):=by omega
   have T:(xs.length:Int)<=9223372036854775807:=by omega
   have A:EsL wr B xs (.slice a xs.length cap):=U.out.low (u.out.mono R);obtain⟨b,O,z,n2,f,d,aa,X,rfl,V,P,y,c0,c1,Z,c3,C⟩:=A.at D;have J:=zh (N.out k z n2 f d _ wr y u.out C);have j:=zh (zfS y I.out)
   generalize p (.mk z n2 f d)=q at *
   clear A C
   cases q with
   | true =>
    have E:=zh (j.out.2 rfl);clear j;go_wp2_with fail
    refine J.out.mono ?_;rintro M w2⟨rfl,g⟩;have m:=zh (u.out.trans (g.mono u.out.size));clear g;go_wp2_with fail
    go_ret
    exact⟨⟨k,rfl,by rw[E.out,yQ];omega⟩,m.out⟩
   | false =>
    have l:=zh (j.out.1 rfl);clear j;go_wp2_with fail
    refine J.out.mono ?_;rintro M w2⟨rfl,g⟩;have m:=zh (u.out.trans (g.mono u.out.size));clear g;go_wp2_with fail
    go_roundw
    case rel=>exact⟨k+1,by omega,by go_num,l,m⟩
    case measure=>simp[intOf];omega
  ·have H:¬(k:Int)<(xs.length:Int):=by omega
   have G:k=xs.length:=by omega
   have l:Hid (xs.any p=false):=zh (by have:=I.out;rw[G,List.take_length] at this;exact this);clear I;go_wp2_with fail
   go_ret;exact⟨⟨-1,rfl,by rw[l.out];rfl⟩,u.out⟩
theorem zkw(xs:List Ex)(v:Value)(p:Ex->Bool)(w:World)(B:Nat)(d:EsL w B xs v)(u:B<=w.heap.size)
  (g:∀(k:Nat) (op n:Int) (name:List UInt8) (args:List Ex) (j:Value) (W:World),xs[k]? = some (.mk op n name args)->Below w.heap.size w W->EsL W B args j->Calls Tryz.prog 125 #[.agg #[.int .u8 op,.int .i64 n,.string (bstr name),j]] W (zbe (p (.mk op n name args)) W)) :
  Calls Tryz.prog 94 #[v,.func (.func 125) #[] #[]] w (zbe (xs.any p) w):=by
 obtain⟨a,cap,rfl,m,y⟩:=d.form;have H:=zh (zno xs _ p w B d u g)
 generalize xs.any p=q at *
 clear d g;go_enter Tryz.func94,Tryz.ntmps94
 go_wp2_with fail
 refine H.out.mono ?_;rintro A w2⟨⟨i,rfl,hi⟩,l⟩;have z:=zh l;have f:decide (i >= 0)=q:=hi;clear l hi;go_wp2_with fail
 go_ret;exact⟨by first|rfl|exact retb f,z.out⟩
theorem znp(xs:List St)(v:Value)(p:St->Bool)(c:Value)(w:World)(B:Nat)(F:SsL w B xs v)(T:B<=w.heap.size)
  (L:∀(k:Nat) (op n:Int) (name:List UInt8) (es:List Ex) (body els:List St) (K vb N:Value) (W:World),xs[k]? = some (.mk op n name es body els)->Below w.heap.size w W->EsL W B es K->SsL W B body vb->SsL W B els N->Calls Tryz.prog 86 #[.agg #[.int .u8 op,.int .i64 n,.string (bstr name),K,vb,N],c] W (zbe (p (.mk op n name es body els)) W)) :
  Calls Tryz.prog 124 #[v,.func (.func 86) #[] #[c]] w fun e w'=>(∃i:Int,e=.returned (.int .i64 i)/\decide (0<=i)=xs.any p)/\Below w.heap.size w w':=by
 obtain⟨a,cap,rfl,S,U⟩:=F.form;have X:=zh F;have P:=zh L;clear F L;go_enter Tryz.func124,Tryz.ntmps124
 go_wp2_with fail
 go_loopw [4,5,8,9,10,11,12,13,14,15,16,17,18] (fun _ _ t8 _ _ _ _ _ _ _ _ _ _ wr=>∃k:Nat,k<=xs.length/\t8=.int .i64 k/\Hid ((xs.take k).any p=false)/\Hid (Below w.heap.size w wr)) (fun _ _ t8 _ _ _ _ _ _ _ _ _ _ _=>xs.length-(intOf t8).toNat)
 case atStart=>exact⟨0,by omega,by first|rfl|go_num,zh (by simp),zh (yR _ _)⟩
 case round =>
  obtain⟨k,hk,rfl,I,m⟩:=hrel;by_cases D:k<xs.length
  ·have H:(k:Int)<(xs.length:Int):=by omega
   have V:(xs.length:Int)<=9223372036854775807:=by omega
   have A:SsL wr B xs (.slice a xs.length cap):=X.out.low (m.out.mono T);obtain⟨b,Q,z,n2,d,es,body,els,ae,ce,ab,cb,al,cl,rfl,Y,R,y,c0,c1,c2,c3,Z,c5,M,C,u⟩:=A.at D;have J:=zh (P.out k z n2 d es body els _ _ _ wr y m.out M C u);have g:=zh (zfS y I.out)
   generalize p (.mk z n2 d es body els)=q at *
   clear A M C u
   cases q with
   | true =>
    have E:=zh (g.out.2 rfl);clear g;go_wp2_with fail
    refine J.out.mono ?_;rintro O w2⟨rfl,f⟩;have l:=zh (m.out.trans (f.mono m.out.size));clear f;go_wp2_with fail
    go_ret
    exact⟨⟨k,rfl,by rw[E.out,yQ];omega⟩,l.out⟩
   | false =>
    have j:=zh (g.out.1 rfl);clear g;go_wp2_with fail
    refine J.out.mono ?_;rintro O w2⟨rfl,f⟩;have l:=zh (m.out.trans (f.mono m.out.size));clear f;go_wp2_with fail
    go_roundw
    case rel=>exact⟨k+1,by omega,by go_num,j,l⟩
    case measure=>simp[intOf];omega
  ·have H:¬(k:Int)<(xs.length:Int):=by omega
   have G:k=xs.length:=by omega
   have j:Hid (xs.any p=false):=zh (by have:=I.out;rw[G,List.take_length] at this;exact this);clear I;go_wp2_with fail
   go_ret;exact⟨⟨-1,rfl,by rw[j.out];rfl⟩,m.out⟩
theorem zkx(xs:List St)(v:Value)(p:St->Bool)(c:Value)(w:World)(B:Nat)(d:SsL w B xs v)(y:B<=w.heap.size)
  (g:∀(k:Nat) (op n:Int) (name:List UInt8) (es:List Ex) (body els:List St) (j vb m:Value) (W:World),xs[k]? = some (.mk op n name es body els)->Below w.heap.size w W->EsL W B es j->SsL W B body vb->SsL W B els m->Calls Tryz.prog 86 #[.agg #[.int .u8 op,.int .i64 n,.string (bstr name),j,vb,m],c] W (zbe (p (.mk op n name es body els)) W)) :
  Calls Tryz.prog 85 #[v,.func (.func 86) #[] #[c]] w (zbe (xs.any p) w):=by
 obtain⟨a,cap,rfl,u,z⟩:=d.form;have H:=zh (znp xs _ p c w B d y g)
 generalize xs.any p=q at *
 clear d g;go_enter Tryz.func85,Tryz.ntmps85
 go_wp2_with fail
 refine H.out.mono ?_;rintro C w2⟨⟨i,rfl,hi⟩,l⟩;have A:=zh l;have f:decide (i >= 0)=q:=hi;clear l hi;go_wp2_with fail
 go_ret;exact⟨by first|rfl|exact retb f,A.out⟩
theorem zmG(op:Int)(w:World):Calls Tryz.prog 92 #[.int .u8 op] w fun e w'=>e=.returned (.int .i64 (zbH op))/\w=w':=by
 by_cases h:op=1∨op=2∨op=3∨op=4∨op=5
 ·rcases h with rfl|rfl|rfl|rfl|rfl
  all_goals
   go_enter Tryz.func92,Tryz.ntmps92
   go_wp2_with fail
   go_ret;exact⟨rfl,rfl⟩
 ·have v:(op==1)=false:=by rw[beq_eq_false_iff_ne];omega
  have q:(op==2)=false:=by rw[beq_eq_false_iff_ne];omega
  have m:(op==3)=false:=by rw[beq_eq_false_iff_ne];omega
  have z:(op==4)=false:=by rw[beq_eq_false_iff_ne];omega
  have y:(op==5)=false:=by rw[beq_eq_false_iff_ne];omega
  by_cases u:6<=op
  ·by_cases l:op<=9
   ·have f:Hid (zbH op=1):=zh (by unfold zbH zb9;rw[yP (by omega),yP (by omega),yN (by omega)];rfl)
    generalize zbH op=d at *
    clear h;go_enter Tryz.func92,Tryz.ntmps92
    go_wp2_with fail
    go_ret;exact⟨by rw[f.out];rfl,rfl⟩
   ·have g:10<=op:=by omega
    have j:¬op<=9:=l;by_cases i:op<=24
    ·have f:Hid (zbH op=2):=zh (by unfold zbH zb9;rw[yP (by omega),yN (by omega)];rfl)
     generalize zbH op=d at *
     clear h;go_enter Tryz.func92,Tryz.ntmps92
     go_wp2_with fail
     go_ret;exact⟨by rw[f.out];rfl,rfl⟩
    ·have f:Hid (zbH op = -1):=zh (by unfold zbH;rw[yN (by omega)])
     generalize zbH op=d at *
     clear h;go_enter Tryz.func92,Tryz.ntmps92
     go_wp2_with fail
     go_ret;exact⟨by rw[f.out];rfl,rfl⟩
  ·have f:Hid (zbH op = -1):=zh (by unfold zbH;rw[yN (by omega)]);have g:¬10<=op:=by omega
   generalize zbH op=d at *
   clear h;go_enter Tryz.func92,Tryz.ntmps92
   go_wp2_with fail
   go_ret;exact⟨by rw[f.out];rfl,rfl⟩
theorem zhg(n:Int)(w:World):Calls Tryz.prog 93 #[.int .i64 n] w fun e w'=>e=.returned (.bool (decide (1<=n/\n<=10)))/\w=w':=by
 obtain⟨f,d,i,j,g⟩:∃f d:Bool,decide (n >= 1)=f/\decide (n<=10)=d/\decide (1<=n/\n<=10)=(f&&d):=⟨_,_,rfl,rfl,by rw[Bool.decide_and]⟩;rw[g];clear g;cases f <;> cases d
 all_goals
  go_enter Tryz.func93,Tryz.ntmps93
  go_wp2;go_ret;exact⟨rfl,rfl⟩
theorem zlJ(d:Nat)(A:d<=41)(op n:Int)(name:List UInt8)(args:List Ex)(v:Value)(q:Bool)(l:Nat)(w:World)(u:∃a cap,v=.slice a args.length cap)(j:OwnV w l 3 [.int .i64 ((d:Int)+1)])
  (H:∀w',Below w.heap.size w w'->Calls Tryz.prog 62 #[.agg #[.int .u8 op,.int .i64 n,.string (bstr name),v],.int .i64 d] w' (zbe q w')) :
  Calls Tryz.prog 95 #[.agg #[.int .u8 op,.int .i64 n,.string (bstr name),v],.pointer (some ⟨l,0,none⟩)] w (zbe (!q) w):=by
 obtain⟨a,cap,rfl⟩:=u;have y:=zh H;have z:=j.lt;have D:=j.cell (i:=0) rfl;have m:¬l=w.heap.size:=by omega
 clear H j;go_enter Tryz.func95,Tryz.ntmps95
 go_wp2_with fail
 refine(y.out _ ((yR _ _).alloc (zr _) _)).mono ?_;rintro B C⟨rfl,f⟩;have g:=zh (((yR w.heap.size w).alloc (zr _) (.cells #[.int .u8 op,.int .i64 n,.string (bstr name),.slice a args.length cap] 29)).trans (f.mono (by simp)));clear f;go_wp2_with fail
 go_ret;exact⟨rfl,g.out⟩
theorem zky (d:Nat) (hd:d<=40) (ih:∀ (op n:Int) (name:List UInt8) (args:List Ex) (v:Value) (w:World) (B:Nat),okE (.mk op n name args)->EsL w B args v->B<=w.heap.size->Calls Tryz.prog 62 #[.agg #[.int .u8 op,.int .i64 n,.string (bstr name),v],.int .i64 d] w (zbe (zbd d (.mk op n name args)) w))
  (op n:Int) (name:List UInt8) (args:List Ex) (v:Value) (w:World) (B:Nat) (ay:okE (.mk op n name args)) (hL:EsL w B args v) (hB:B<=w.heap.size) :
  Calls Tryz.prog 62 #[.agg #[.int .u8 op,.int .i64 n,.string (bstr name),v],.int .i64 ((d:Int)+1)] w (zbe (zbd (d+1) (.mk op n name args)) w):=by
 obtain⟨a,cap,rfl,aE,aD⟩:=hL.form;have aC:=zh ih;have HL:=zh hL;obtain⟨-,-,-,aj⟩:=ay;have an:=zh aj;obtain⟨D,ap,ao,ak,am,aH⟩:=zbD w [.int .u8 op,.int .i64 n,.string (bstr name),.slice a args.length cap] [.int .i64 ((d:Int)+1)] 29 3;have m:=zh ao;have j:=zh ak;have au:=zh am;obtain⟨H,G,J,I⟩:=yc4 ak;have U:=am.cell (i:=0) rfl;have F:=zh ap;have T:Hid (∀w:World,_):=zh (fun w:World=>zmG op w);have ae:Hid (∀w:World,_):=zh (fun w:World=>zdr name w);have HK:Hid (∀w:World,_):=zh (fun w:World=>zhg n w);have aG:0<(d:Int)+1:=by omega
 obtain⟨l,ad⟩:∃q,zbd (d+1) (.mk op n name args)=q:=⟨_,rfl⟩;have X:Hid (l=(zbN op n name args.length&&args.all (zbd d))):=zh (by rw[<-ad,zbd]);rw[zk2] at X;rw[ad]
 have HC:Hid (∀(W:World) (fp:Value),fp=.pointer (some ⟨w.heap.size+1,0,none⟩)->Below D.heap.size D W->Calls Tryz.prog 94 #[.slice a args.length cap,.func (.func 95) #[] #[fp]] W (zbe (args.any fun x=>!zbd d x) W)):=zh (by
  rintro W fp rfl hb;refine zkv args _ (fun x=>!zbd d x) _ W B (HL.out.low ((m.out.mono hB).trans (hb.mono (yT hB m.out.size)))) (yT hB (yT m.out.size hb.size)) ?_;intro k ar n2 Y ab va W2 av y aq;have aw:=(au.out.below hb (zr _)).below y (zr _);obtain⟨aa,ac,rfl,_,_⟩:=aq.form;refine zlJ d (by omega) ar n2 Y ab _ _ _ W2 ⟨_,_,rfl⟩ aw ?_;intro w3 E
  exact aC.out ar n2 Y ab _ w3 B (zgR an.out av) (aq.low (E.mono (yT hB (yT m.out.size (yT hb.size y.size))))) (yT hB (yT m.out.size (yT hb.size (yT y.size E.size)))))
 have ai:(args.any fun x=>!zbd d x) = !args.all (zbd d):=by rw[List.all_eq_not_any_not,Bool.not_not]
 rw[ai] at HC
 have aA:Hid (op=1->args.length=zb9 op->args.all (zbd d)=true):=zh (fun h h2=>by
  have:args=[]:=List.eq_nil_of_length_eq_zero (by rw[h2,h];rfl)
  rw[this];rfl)
 generalize args.all (zbd d)=qa at *
 clear ao ak am hL aj ih ad ap ai;by_cases hm:zbH op=(args.length:Int)
 ·have az:(zbH op != (args.length:Int))=false:=by rw [hm];simp
  have ax:Hid (op=1->args.length=zb9 op):=zh (fun h=>by rw[h] at hm ⊢;have e:zbH 1=0:=rfl;have R:zb9 1=0:=rfl;omega);have Hm:=zh hm
  generalize zbH op=M at *
  clear hm;obtain⟨R,S⟩:∃q,(op==2)=q:=⟨_,rfl⟩;by_cases hn:name=[]
  ·have hs:(bstr name).toList=[]:=str_nil.2 hn;have Hn:=zh hn;clear hn
   cases R with
   | true =>
    have z:Hid (l=false):=zh (by rw[X.out,decide_eq_true Hm.out,S,decide_eq_false (not_not_intro Hn.out),Bool.true_and];rfl);clear X;go_enter Tryz.func62,Tryz.ntmps62
    go_upto_region 1 with(fail)
    rw[<-F.out];refine zac (fun w'=>Below D.heap.size D w') (by kernel_rfl) (by kernel_rfl) ((yR _ _).drew) ?_
    repeat
     try simp only[Act.put,zs1,zs3,zs2]
     apply stepsSeq.cons
     ·intro w' f;have g:=zh f;have K:=Below.keep f H;have L:=Below.keep f G;have O:=Below.keep f J;have Q:=Below.keep f I;have P:=Below.keep f U;simp only[Act.put,zs1,zs3,zs2];go_wp2_with ((go_at_call 92;refine(T.out _).mono ?_;rintro R w2⟨rfl,rfl⟩))
      first|exact⟨rfl,g.out⟩|exact⟨rfl,g.out.trans (y.mono g.out.size)⟩
    try simp only[Act.put,zs1,zs3,zs2]
    refine stepsSeq.nil ?_;intro w' f;have u:=zh (m.out.trans (f.mono m.out.size));have A:=zh f;replace H:=(j.out.below f (zr _)).cell (i:=0) rfl;replace G:=(j.out.below f (zr _)).cell (i:=1) rfl;replace J:=(j.out.below f (zr _)).cell (i:=2) rfl;replace I:=(j.out.below f (zr _)).cell (i:=3) rfl;clear f;go_wp2_with fail
    go_ret
    exact⟨retb (a:=false) z.out.symm,u.out⟩
   | false =>
    have N:Hid (l=((if op=1 then decide (0<=n) else if op=3 then decide (1<=n/\n<=10) else decide (n=0))&&qa)):=zh (by rw[X.out,decide_eq_true Hm.out,S,decide_eq_false (not_not_intro Hn.out),decide_eq_true Hn.out,Bool.true_or,Bool.true_and,Bool.true_and];rfl);clear X;obtain⟨o1,ag⟩:∃q,(op==1)=q:=⟨_,rfl⟩
    cases o1 with
    | true =>
     obtain⟨p,hp⟩:∃q,decide (n >= 0)=q:=⟨_,rfl⟩
     have ah:Hid (l=p):=zh (by
      have h1:op=1:=by rw[beq_iff_eq] at ag;exact ag
      rw[N.out,yP h1,<-hp,aA.out h1 (ax.out h1),Bool.and_true])
     go_enter Tryz.func62,Tryz.ntmps62
     go_upto_region 1 with(fail)
     rw[<-F.out];refine zac (fun w'=>Below D.heap.size D w') (by kernel_rfl) (by kernel_rfl) ((yR _ _).drew) ?_
     repeat
      try simp only[Act.put,zs1,zs3,zs2]
      apply stepsSeq.cons
      ·intro w' f;have g:=zh f;have K:=Below.keep f H;have L:=Below.keep f G;have O:=Below.keep f J;have Q:=Below.keep f I;have P:=Below.keep f U;simp only[Act.put,zs1,zs3,zs2];go_wp2_with ((go_at_call 92;refine(T.out _).mono ?_;rintro R w2⟨rfl,rfl⟩))
       first|exact⟨rfl,g.out⟩|exact⟨rfl,g.out.trans (y.mono g.out.size)⟩
     try simp only[Act.put,zs1,zs3,zs2]
     refine stepsSeq.nil ?_;intro w' f;have u:=zh (m.out.trans (f.mono m.out.size));have A:=zh f;replace H:=(j.out.below f (zr _)).cell (i:=0) rfl;replace G:=(j.out.below f (zr _)).cell (i:=1) rfl;replace J:=(j.out.below f (zr _)).cell (i:=2) rfl;replace I:=(j.out.below f (zr _)).cell (i:=3) rfl;clear f;go_wp2_with fail
     go_ret
     exact⟨by first|exact retb (a:=p) ah.out.symm|exact retb (hp.trans ah.out.symm),u.out⟩
    | false =>
     obtain⟨o3,af⟩:∃q,(op==3)=q:=⟨_,rfl⟩;have h1:¬op=1:=by rw[beq_eq_false_iff_ne] at ag;exact ag
     cases o3 with
     | true =>
      have h3:op=3:=by rw[beq_iff_eq] at af;exact af
      have C:Hid (l=(decide (1<=n/\n<=10)&&qa)):=zh (by rw[N.out,yN h1,yP h3])
      generalize decide (1<=n/\n<=10)=p at *
      clear h1 h3 N
      cases p with
      | false =>
       have z:Hid (l=false):=zh (by rw[C.out,Bool.false_and]);go_enter Tryz.func62,Tryz.ntmps62
       go_upto_region 1 with(fail)
       rw[<-F.out];refine zac (fun w'=>Below D.heap.size D w') (by kernel_rfl) (by kernel_rfl) ((yR _ _).drew) ?_
       repeat
        try simp only[Act.put,zs1,zs3,zs2]
        apply stepsSeq.cons
        ·intro w' f;have g:=zh f;have K:=Below.keep f H;have L:=Below.keep f G;have O:=Below.keep f J;have Q:=Below.keep f I;have P:=Below.keep f U;simp only[Act.put,zs1,zs3,zs2];go_wp2_with ((go_at_call 92;refine(T.out _).mono ?_;rintro R w2⟨rfl,rfl⟩))
         first|exact⟨rfl,g.out⟩|exact⟨rfl,g.out.trans (y.mono g.out.size)⟩
       try simp only[Act.put,zs1,zs3,zs2]
       refine stepsSeq.nil ?_;intro w' f;have u:=zh (m.out.trans (f.mono m.out.size));have A:=zh f;replace H:=(j.out.below f (zr _)).cell (i:=0) rfl;replace G:=(j.out.below f (zr _)).cell (i:=1) rfl;replace J:=(j.out.below f (zr _)).cell (i:=2) rfl;replace I:=(j.out.below f (zr _)).cell (i:=3) rfl;clear f;go_wp2_with fail
       refine(HK.out _).mono ?_;rintro e3 w3⟨rfl,rfl⟩;go_wp2_with fail
       go_ret
       exact⟨retb (a:=false) z.out.symm,u.out⟩
      | true =>
       have C:Hid (l=qa):=zh (by rw[C.out,Bool.true_and]);go_enter Tryz.func62,Tryz.ntmps62
       go_upto_region 1 with(fail)
       rw[<-F.out];refine zac (fun w'=>Below D.heap.size D w') (by kernel_rfl) (by kernel_rfl) ((yR _ _).drew) ?_
       repeat
        try simp only[Act.put,zs1,zs3,zs2]
        apply stepsSeq.cons
        ·intro w' f;have g:=zh f;have K:=Below.keep f H;have L:=Below.keep f G;have O:=Below.keep f J;have Q:=Below.keep f I;have P:=Below.keep f U;simp only[Act.put,zs1,zs3,zs2];go_wp2_with ((go_at_call 92;refine(T.out _).mono ?_;rintro R w2⟨rfl,rfl⟩))
         first|exact⟨rfl,g.out⟩|exact⟨rfl,g.out.trans (y.mono g.out.size)⟩
       try simp only[Act.put,zs1,zs3,zs2]
       refine stepsSeq.nil ?_;intro w' f;have u:=zh (m.out.trans (f.mono m.out.size));have A:=zh f;replace H:=(j.out.below f (zr _)).cell (i:=0) rfl;replace G:=(j.out.below f (zr _)).cell (i:=1) rfl;replace J:=(j.out.below f (zr _)).cell (i:=2) rfl;replace I:=(j.out.below f (zr _)).cell (i:=3) rfl;clear f;go_wp2_with fail
       refine(HK.out _).mono ?_;rintro e3 w3⟨rfl,rfl⟩;go_wp2_with fail
       refine(HC.out _ _ rfl A.out).mono ?_;rintro e3 w3⟨rfl,E⟩;have Z:=zh (u.out.trans (E.mono u.out.size));clear E;go_wp2_with fail
       go_ret
       exact⟨retb (a:=qa) C.out.symm,Z.out⟩
     | false =>
      have h3:¬op=3:=by rw[beq_eq_false_iff_ne] at af;exact af
      have C:Hid (l=(decide (n=0)&&qa)):=zh (by rw[N.out,yN h1,yN h3]);obtain⟨p,hp,V⟩:∃q,(n != 0)=q/\decide (n=0) = !q:=⟨_,rfl,by rw[Bool.eq_iff_iff];simp⟩;rw[V] at C;clear h1 h3 N V
      cases p with
      | true =>
       have z:Hid (l=false):=zh (by rw[C.out];rfl);go_enter Tryz.func62,Tryz.ntmps62
       go_upto_region 1 with(fail)
       rw[<-F.out];refine zac (fun w'=>Below D.heap.size D w') (by kernel_rfl) (by kernel_rfl) ((yR _ _).drew) ?_
       repeat
        try simp only[Act.put,zs1,zs3,zs2]
        apply stepsSeq.cons
        ·intro w' f;have g:=zh f;have K:=Below.keep f H;have L:=Below.keep f G;have O:=Below.keep f J;have Q:=Below.keep f I;have P:=Below.keep f U;simp only[Act.put,zs1,zs3,zs2];go_wp2_with ((go_at_call 92;refine(T.out _).mono ?_;rintro R w2⟨rfl,rfl⟩))
         first|exact⟨rfl,g.out⟩|exact⟨rfl,g.out.trans (y.mono g.out.size)⟩
       try simp only[Act.put,zs1,zs3,zs2]
       refine stepsSeq.nil ?_;intro w' f;have u:=zh (m.out.trans (f.mono m.out.size));have A:=zh f;replace H:=(j.out.below f (zr _)).cell (i:=0) rfl;replace G:=(j.out.below f (zr _)).cell (i:=1) rfl;replace J:=(j.out.below f (zr _)).cell (i:=2) rfl;replace I:=(j.out.below f (zr _)).cell (i:=3) rfl;clear f;go_wp2_with fail
       go_ret
       exact⟨retb (a:=false) z.out.symm,u.out⟩
      | false =>
       have C:Hid (l=qa):=zh (by rw[C.out];rfl);go_enter Tryz.func62,Tryz.ntmps62
       go_upto_region 1 with(fail)
       rw[<-F.out];refine zac (fun w'=>Below D.heap.size D w') (by kernel_rfl) (by kernel_rfl) ((yR _ _).drew) ?_
       repeat
        try simp only[Act.put,zs1,zs3,zs2]
        apply stepsSeq.cons
        ·intro w' f;have g:=zh f;have K:=Below.keep f H;have L:=Below.keep f G;have O:=Below.keep f J;have Q:=Below.keep f I;have P:=Below.keep f U;simp only[Act.put,zs1,zs3,zs2];go_wp2_with ((go_at_call 92;refine(T.out _).mono ?_;rintro R w2⟨rfl,rfl⟩))
         first|exact⟨rfl,g.out⟩|exact⟨rfl,g.out.trans (y.mono g.out.size)⟩
       try simp only[Act.put,zs1,zs3,zs2]
       refine stepsSeq.nil ?_;intro w' f;have u:=zh (m.out.trans (f.mono m.out.size));have A:=zh f;replace H:=(j.out.below f (zr _)).cell (i:=0) rfl;replace G:=(j.out.below f (zr _)).cell (i:=1) rfl;replace J:=(j.out.below f (zr _)).cell (i:=2) rfl;replace I:=(j.out.below f (zr _)).cell (i:=3) rfl;clear f;go_wp2_with fail
       refine(HC.out _ _ rfl A.out).mono ?_;rintro e3 w3⟨rfl,E⟩;have Z:=zh (u.out.trans (E.mono u.out.size));clear E;go_wp2_with fail
       go_ret;exact⟨retb (a:=qa) C.out.symm,Z.out⟩
  ·have hs:¬ (bstr name).toList=[]:=fun h=>hn (str_nil.1 h)
   have aF:(bstr name).toList.isEmpty=false:=by rw[List.isEmpty_eq_false_iff];exact hs
   have Hn:=zh hn;clear hn
   cases R with
   | false =>
    have z:Hid (l=false):=zh (by rw[X.out,decide_eq_true Hm.out,S,decide_eq_true Hn.out,Bool.true_and];rfl);clear X;go_enter Tryz.func62,Tryz.ntmps62
    go_upto_region 1 with(fail)
    rw[<-F.out];refine zac (fun w'=>Below D.heap.size D w') (by kernel_rfl) (by kernel_rfl) ((yR _ _).drew) ?_
    repeat
     try simp only[Act.put,zs1,zs3,zs2]
     apply stepsSeq.cons
     ·intro w' f;have g:=zh f;have K:=Below.keep f H;have L:=Below.keep f G;have O:=Below.keep f J;have Q:=Below.keep f I;have P:=Below.keep f U;simp only[Act.put,zs1,zs3,zs2];go_wp2_with ((go_at_call 92;refine(T.out _).mono ?_;rintro R w2⟨rfl,rfl⟩))
      first|exact⟨rfl,g.out⟩|exact⟨rfl,g.out.trans (y.mono g.out.size)⟩
    try simp only[Act.put,zs1,zs3,zs2]
    refine stepsSeq.nil ?_;intro w' f;have u:=zh (m.out.trans (f.mono m.out.size));have A:=zh f;replace H:=(j.out.below f (zr _)).cell (i:=0) rfl;replace G:=(j.out.below f (zr _)).cell (i:=1) rfl;replace J:=(j.out.below f (zr _)).cell (i:=2) rfl;replace I:=(j.out.below f (zr _)).cell (i:=3) rfl;clear f;go_wp2_with fail
    go_ret
    exact⟨retb (a:=false) z.out.symm,u.out⟩
   | true =>
    obtain⟨p,hp⟩:∃q,zaP name=q:=⟨_,rfl⟩;have h2:op=2:=by rw[beq_iff_eq] at S;exact S
    have o1:(op==1)=false:=by rw[beq_eq_false_iff_ne];omega
    have o3:(op==3)=false:=by rw[beq_eq_false_iff_ne];omega
    have N:Hid (l=((p&&decide (n=0))&&qa)):=zh (by rw[X.out,decide_eq_true Hm.out,S,decide_eq_true Hn.out,decide_eq_false Hn.out,Bool.false_or,hp,Bool.true_and,yN (by omega),yN (by omega)];rfl);rw[hp] at ae;clear X hp h2
    cases p with
    | false =>
     have z:Hid (l=false):=zh (by rw[N.out];rfl);go_enter Tryz.func62,Tryz.ntmps62
     go_upto_region 1 with(fail)
     rw[<-F.out];refine zac (fun w'=>Below D.heap.size D w') (by kernel_rfl) (by kernel_rfl) ((yR _ _).drew) ?_
     repeat
      try simp only[Act.put,zs1,zs3,zs2]
      apply stepsSeq.cons
      ·intro w' f;have g:=zh f;have K:=Below.keep f H;have L:=Below.keep f G;have O:=Below.keep f J;have Q:=Below.keep f I;have P:=Below.keep f U;simp only[Act.put,zs1,zs3,zs2];go_wp2_with ((first|(go_at_call 92;refine(T.out _).mono ?_;rintro R w2⟨rfl,rfl⟩)|(go_at_call 21;refine(ae.out _).mono ?_;rintro R w2⟨rfl,y⟩)))
       first|exact⟨rfl,g.out⟩|exact⟨rfl,g.out.trans (y.mono g.out.size)⟩
     try simp only[Act.put,zs1,zs3,zs2]
     refine stepsSeq.nil ?_;intro w' f;have u:=zh (m.out.trans (f.mono m.out.size));have A:=zh f;replace H:=(j.out.below f (zr _)).cell (i:=0) rfl;replace G:=(j.out.below f (zr _)).cell (i:=1) rfl;replace J:=(j.out.below f (zr _)).cell (i:=2) rfl;replace I:=(j.out.below f (zr _)).cell (i:=3) rfl;clear f;go_wp2_with fail
     go_ret
     exact⟨retb (a:=false) z.out.symm,u.out⟩
    | true =>
     obtain⟨p,hp,V⟩:∃q,(n != 0)=q/\decide (n=0) = !q:=⟨_,rfl,by rw[Bool.eq_iff_iff];simp⟩;rw[V] at N;clear V
     cases p with
     | true =>
      have z:Hid (l=false):=zh (by rw[N.out];rfl);go_enter Tryz.func62,Tryz.ntmps62
      go_upto_region 1 with(fail)
      rw[<-F.out];refine zac (fun w'=>Below D.heap.size D w') (by kernel_rfl) (by kernel_rfl) ((yR _ _).drew) ?_
      repeat
       try simp only[Act.put,zs1,zs3,zs2]
       apply stepsSeq.cons
       ·intro w' f;have g:=zh f;have K:=Below.keep f H;have L:=Below.keep f G;have O:=Below.keep f J;have Q:=Below.keep f I;have P:=Below.keep f U;simp only[Act.put,zs1,zs3,zs2];go_wp2_with ((first|(go_at_call 92;refine(T.out _).mono ?_;rintro R w2⟨rfl,rfl⟩)|(go_at_call 21;refine(ae.out _).mono ?_;rintro R w2⟨rfl,y⟩)))
        first|exact⟨rfl,g.out⟩|exact⟨rfl,g.out.trans (y.mono g.out.size)⟩
      try simp only[Act.put,zs1,zs3,zs2]
      refine stepsSeq.nil ?_;intro w' f;have u:=zh (m.out.trans (f.mono m.out.size));have A:=zh f;replace H:=(j.out.below f (zr _)).cell (i:=0) rfl;replace G:=(j.out.below f (zr _)).cell (i:=1) rfl;replace J:=(j.out.below f (zr _)).cell (i:=2) rfl;replace I:=(j.out.below f (zr _)).cell (i:=3) rfl;clear f;go_wp2_with fail
      go_ret
      exact⟨retb (a:=false) z.out.symm,u.out⟩
     | false =>
      have C:Hid (l=qa):=zh (by rw[N.out];rfl);go_enter Tryz.func62,Tryz.ntmps62
      go_upto_region 1 with(fail)
      rw[<-F.out];refine zac (fun w'=>Below D.heap.size D w') (by kernel_rfl) (by kernel_rfl) ((yR _ _).drew) ?_
      repeat
       try simp only[Act.put,zs1,zs3,zs2]
       apply stepsSeq.cons
       ·intro w' f;have g:=zh f;have K:=Below.keep f H;have L:=Below.keep f G;have O:=Below.keep f J;have Q:=Below.keep f I;have P:=Below.keep f U;simp only[Act.put,zs1,zs3,zs2];go_wp2_with ((first|(go_at_call 92;refine(T.out _).mono ?_;rintro R w2⟨rfl,rfl⟩)|(go_at_call 21;refine(ae.out _).mono ?_;rintro R w2⟨rfl,y⟩)))
        first|exact⟨rfl,g.out⟩|exact⟨rfl,g.out.trans (y.mono g.out.size)⟩
      try simp only[Act.put,zs1,zs3,zs2]
      refine stepsSeq.nil ?_;intro w' f;have u:=zh (m.out.trans (f.mono m.out.size));have A:=zh f;replace H:=(j.out.below f (zr _)).cell (i:=0) rfl;replace G:=(j.out.below f (zr _)).cell (i:=1) rfl;replace J:=(j.out.below f (zr _)).cell (i:=2) rfl;replace I:=(j.out.below f (zr _)).cell (i:=3) rfl;clear f;go_wp2_with fail
      refine(HC.out _ _ rfl A.out).mono ?_;rintro e3 w3⟨rfl,E⟩;have Z:=zh (u.out.trans (E.mono u.out.size));clear E;go_wp2_with fail
      go_ret;exact⟨retb (a:=qa) C.out.symm,Z.out⟩
 ·have az:(zbH op != (args.length:Int))=true:=by rw[bne_iff_ne];exact hm
  have Hm:=zh hm
  generalize zbH op=M at *
  clear hm;have z:Hid (l=false):=zh (by rw[X.out,decide_eq_false Hm.out,Bool.false_and,Bool.false_and]);clear X;go_enter Tryz.func62,Tryz.ntmps62
  go_upto_region 1 with(fail)
  rw[<-F.out];refine zac (fun w'=>Below D.heap.size D w') (by kernel_rfl) (by kernel_rfl) ((yR _ _).drew) ?_
  repeat
   try simp only[Act.put,zs1,zs3,zs2]
   apply stepsSeq.cons
   ·intro w' f;have g:=zh f;have K:=Below.keep f H;have L:=Below.keep f G;have O:=Below.keep f J;have Q:=Below.keep f I;have P:=Below.keep f U;simp only[Act.put,zs1,zs3,zs2];go_wp2_with ((go_at_call 92;refine(T.out _).mono ?_;rintro R w2⟨rfl,rfl⟩))
    first|exact⟨rfl,g.out⟩|exact⟨rfl,g.out.trans (y.mono g.out.size)⟩
  try simp only[Act.put,zs1,zs3,zs2]
  refine stepsSeq.nil ?_;intro w' f;have u:=zh (m.out.trans (f.mono m.out.size));have A:=zh f;replace H:=(j.out.below f (zr _)).cell (i:=0) rfl;replace G:=(j.out.below f (zr _)).cell (i:=1) rfl;replace J:=(j.out.below f (zr _)).cell (i:=2) rfl;replace I:=(j.out.below f (zr _)).cell (i:=3) rfl;clear f;go_wp2_with fail
  go_ret;exact⟨retb (a:=false) z.out.symm,u.out⟩
theorem zkz(op n:Int)(name:List UInt8)(args:List Ex)(v:Value)(w:World)(B:Nat)(C:EsL w B args v) :
  Calls Tryz.prog 62 #[.agg #[.int .u8 op,.int .i64 n,.string (bstr name),v],.int .i64 0] w (zbe (zbd 0 (.mk op n name args)) w):=by
 obtain⟨a,cap,rfl,A,D⟩:=C.form;clear C;obtain⟨z,l,j,y,m,E⟩:=zbD w [.int .u8 op,.int .i64 n,.string (bstr name),.slice a args.length cap] [.int .i64 0] 29 3;have g:=zh j;have G:=m.cell (i:=0) rfl;have u:=zh l;clear j y m l;go_enter Tryz.func62,Tryz.ntmps62
 go_upto_region 1 with(fail)
 rw[<-u.out];refine zac (fun w'=>Below z.heap.size z w') (by kernel_rfl) (by kernel_rfl) ((yR _ _).drew) ?_
 repeat
  try simp only[Act.put,zs1,zs3,zs2]
  apply stepsSeq.cons
  ·intro w' d;have f:=zh d;have F:=Below.keep d G;simp only[Act.put,zs1,zs3,zs2];go_wp2_with ((fail))
   first|exact⟨rfl,f.out⟩|exact⟨rfl,f.out.trans (hb2.mono f.out.size)⟩
 try simp only[Act.put,zs1,zs3,zs2]
 refine stepsSeq.nil ?_;intro w' d;have q:=zh (g.out.trans (d.mono g.out.size));clear d;go_wp2_with fail
 go_ret;exact⟨rfl,q.out⟩
theorem zhh:∀(d:Nat),d<=41->∀(op n:Int) (name:List UInt8) (args:List Ex) (v:Value) (w:World) (B:Nat),okE (.mk op n name args)->EsL w B args v->B<=w.heap.size ->
  Calls Tryz.prog 62 #[.agg #[.int .u8 op,.int .i64 n,.string (bstr name),v],.int .i64 d] w (zbe (zbd d (.mk op n name args)) w):=by
 intro d
 induction d with
 | zero=>intro _ op n name args v w B _ g _;exact zkz op n name args v w B g
 | succ d ih =>
  intro j op n name args v w B f g i;rw[show((d+1:Nat):Int)=(d:Int)+1 from Int.natCast_succ d];exact zky d (by omega) (ih (by omega)) op n name args v w B f g i
end Go.Proofs.YtoaojdobjinhfaaGreatDoor
