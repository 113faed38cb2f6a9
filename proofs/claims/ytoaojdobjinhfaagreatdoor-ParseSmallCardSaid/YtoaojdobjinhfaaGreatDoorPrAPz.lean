/- The program's printer: binds, short, walked. -/
import Derived.Test.YtoaojdobjinhfaaGreatDoorBackSPz
import Derived.Test.YtoaojdobjinhfaaGreatDoorPaHPz
set_option linter.unusedSimpArgs false
set_option linter.unusedVariables false
set_option maxRecDepth 100000
set_option maxHeartbeats 1000000
namespace Go.Proofs.YtoaojdobjinhfaaGreatDoor
open Go.RowKit

theorem zmC(n:Nat)(d:n<5):∀x∈lvl n,zar x.2=n+1/\zaO x.2=x.1:=by
 have:n=0∨n=1∨n=2∨n=3∨n=4:=by omega
 rcases this with rfl|rfl|rfl|rfl|rfl <;> decide
theorem zmD{op:Int}(h:∀m,m<5->∀x∈lvl m,x.2≠op):zar op=6:=by
 unfold zar;by_cases i:10<=op/\op<=22
 ·exfalso;have j:=h 0 (by omega);have f:=h 1 (by omega);have d:=h 2 (by omega);have g:=h 3 (by omega);have l:=h 4 (by omega);simp[lvl] at j f d g l;omega
 ·rw[yN i]
def zdk (op : Int) : List UInt8 := if zar op < 6 then zaO op else []
theorem znl(n:Nat)(d:n<5):(lvl n).length<=6:=by
 have:n=0∨n=1∨n=2∨n=3∨n=4:=by omega
 rcases this with rfl|rfl|rfl|rfl|rfl <;> decide
theorem zbw (op:Int) (w:World) :
  Calls Tryz.prog 97 #[.int .u8 op] w fun e w'=>e=.returned (.tuple #[.int .i64 ((zar op:Int)-1),.string (bstr (zdk op))])/\Below w.heap.size w w':=by
 have HL:=zh (za7 w);obtain⟨B,K⟩:∃B,((zar op:Int)-1)=B:=⟨_,rfl⟩;obtain⟨T,M⟩:∃T,bstr (zdk op)=T:=⟨_,rfl⟩
 have f:Hid (∀n x,n<5->x∈lvl n->x.2=op->B=n/\T=bstr x.1):=zh (fun n x hn hx e=>by
  obtain⟨h1,Y⟩:=zmC n hn x hx;rw[e] at h1 Y;rw[<-K,<-M,h1];refine⟨by omega,?_⟩;unfold zdk
  rw[yP (by omega),Y])
 have J:Hid ((∀m,m<5->∀x∈lvl m,x.2≠op)->B=5/\T={ data:=#[] }):=zh (fun h=>by
  have h6:=zmD h;rw[<-K,<-M,h6];refine⟨by omega,?_⟩;unfold zdk;rw[yN (by omega)]
  rfl)
 rw[K,M];clear K M;go_enter Tryz.func97,Tryz.ntmps97
 go_wp2_with fail
 go_at_call 98;refine HL.out.mono ?_;rintro e1 w1⟨rfl,i,z⟩;have g:=zh i;have Q:=zh z;have af:w.heap.size<=w1.heap.size:=z.size;clear i z HL;go_wp2_with fail
 go_loopw [2,3,4,5,7,9,10,11,12,13,14,15,16,17,18,19,20,21,22,23,24,25,26,27] (fun _ _ _ _ _ t9 _ _ _ _ _ _ _ _ _ _ _ _ _ _ _ _ _ _ wr=>∃n:Nat,t9=.int .i64 n/\n<=5/\Hid (∀m,m<n->∀x∈lvl m,x.2≠op)/\Hid (∀m,m<5->OwnV wr (w.heap.size+1+m) 155 (sgC (lvl m)))/\Hid (Below w.heap.size w wr)) (fun _ _ _ _ _ t9 _ _ _ _ _ _ _ _ _ _ _ _ _ _ _ _ _ _ _=>5-(intOf t9).toNat)
 case atStart=>exact⟨0,by first|rfl|go_num,by omega,zh (fun m hm=>by omega),g,Q⟩
 case round =>
  obtain⟨n,rfl,aa,R,HR,S⟩:=hrel;obtain hn|hn:n=5∨n<5:=by omega
  · -- znZ the loop
   have hc:¬((n:Int)<5):=by omega
   obtain⟨rfl,rfl⟩:=J.out (fun m hm x hx=>R.out m (by omega) x hx);have V:=zh (za7 wr);clear J f R HR g;go_wp2_with fail
   go_at_call 98;refine V.out.mono ?_;rintro e2 w2⟨rfl,-,H⟩;have O:=zh (S.out.trans (H.mono S.out.size));clear H;go_wp2_with fail
   exact yE (v:=.tuple #[.int .i64 5,.string { data:=#[] }]) (by simp[results,Tryz.results97,go_sem]) rfl ⟨rfl,O.out⟩
  ·have hc:(n:Int) < 5:=by omega
   have ac:=zg7 n hn w.heap.size;have ae:=znl n hn
   generalize hlv:lvl n=lv at *
   have y:=zh hlv;clear hlv;go_wp2_with fail
   go_loopw [2,3,7,15,16,17,18,19,20,21,22,23,24,25,26] (fun _ _ _ t15 _ _ _ _ _ _ _ _ _ _ _ wr=>∃k:Nat,t15=.int .i64 k/\k<=lv.length/\Hid (∀j x,j<k->lv[j]? = some x->x.2≠op)/\Hid (∀m,m<5->OwnV wr (w.heap.size+1+m) 155 (sgC (lvl m)))/\Hid (Below w.heap.size w wr)) (fun _ _ _ t15 _ _ _ _ _ _ _ _ _ _ _ _=>lv.length-(intOf t15).toNat)
   case atStart=>exact⟨0,by first|rfl|go_num,by omega,zh (fun j x hj=>by omega),HR,S⟩
   case round =>
    obtain⟨k,rfl,hk,Z,l,u⟩:=hrel;obtain d|d:k=lv.length∨k<lv.length:=by omega
    ·have P:¬((k:Int)<(lv.length:Int)):=by omega
     go_wp2_with fail
     go_roundw
     case measure=>show 5-((n:Int)+1).toNat<5-(n:Int).toNat;omega
     case rel=>exact⟨n+1,by first|rfl|go_num,by omega,zh (fun m hm x hx=>by
      rcases Nat.lt_or_ge m n with h|h
      ·exact R.out m h x hx
      ·obtain rfl:m=n:=by omega
       rw[y.out] at hx;obtain⟨j,hj,e⟩:=List.getElem_of_mem hx
       exact Z.out j x (by omega) (by rw[yD hj,e])),l,u⟩
    ·have P:(k:Int)<(lv.length:Int):=by omega
     have ad:(0:Int)<=(k:Int):=by omega
     have L:=l.out n hn;rw[y.out] at L;obtain⟨s0,s1⟩:=zgm L d;have I:lv[k]∈lvl n:=by rw[y.out];exact List.getElem_mem d
     have HY:=zh (f.out n lv[k] hn I);have U:Hid (∀x,lv[k]? = some x->x=lv[k]):=zh (fun x e=>by rw[yD d] at e;cases e;rfl)
     generalize lv[k]=X at *
     obtain⟨xs,F⟩:=X;have ab:=L.lt;obtain⟨W7,E,A,C⟩:∃W7,W7=wr.alloc (.cells #[.string (bstr xs),.int .u8 F] 155)/\Below wr.heap.size wr W7/\OwnV W7 wr.heap.size 155 [.string (bstr xs),.int .u8 F]:=⟨_,rfl,(yR _ _).alloc (zr _) _,OwnV.new _ _ _⟩;obtain⟨t0,t1⟩:=yc2 C;have D:=zh (u.out.trans (A.mono u.out.size));have N:Hid (∀m,m<5->OwnV W7 (w.heap.size+1+m) 155 (sgC (lvl m))):=zh (fun m hm=>(l.out m hm).below A (zr _));have W:=zh E;clear L E A C I;go_upto_region 7 with(fail)
     rw[<-W.out];obtain⟨q,hq⟩:∃q,(F==op)=q:=⟨_,rfl⟩
     cases q with
     | true =>
      have G:F=op:=by simpa using hq
      obtain⟨rfl,rfl⟩:=HY.out G;clear G;go_upto_region 8 with(fail)
      go_quiet (fail)
      go_wp2_with fail
      exact yE (v:=.tuple #[.int .i64 n,.string (bstr xs)]) (by simp[results,Tryz.results97,go_sem]) rfl ⟨rfl,Below.drewN D.out nq⟩
     | false =>
      have G:F≠op:=by simpa using hq
      have He:=zh G;clear G;go_wp2_with fail
      go_roundw
      case measure=>show lv.length-((k:Int)+1).toNat<lv.length-(k:Int).toNat;omega
      case rel=>exact⟨k+1,by first|rfl|go_num,by omega,zh (fun j x hj e=>by
       rcases Nat.lt_or_ge j k with h|h
       ·exact Z.out j x h e
       ·obtain rfl:j=k:=by omega
        rw[U.out x e];exact He.out),N,D⟩
theorem zhe(s:ByteArray)(w:World) :
  Calls Tryz.prog 55 #[.string s] w fun e w'=>e=.returned (.tuple #[.string (if 16384<s.size then { data:=#[] } else s),.int .i64 (if 16384<s.size then 3 else 0)])/\w'=w:=by
 by_cases h:16384<s.size
 ·have d:(s.size:Int)>16384:=by omega
  rw[yP h,yP h];go_enter Tryz.func55,Tryz.ntmps55
  go_wp2_with fail
  exact yE (v:=.tuple #[.string { data:=#[] },.int .i64 3]) (by simp[results,Tryz.results55,go_sem]) rfl ⟨rfl,rfl⟩
 ·have d:¬(s.size:Int)>16384:=by omega
  rw[yN h,yN h];go_enter Tryz.func55,Tryz.ntmps55
  go_wp2_with fail
  exact yE (v:=.tuple #[.string s,.int .i64 0]) (by simp[results,Tryz.results55,go_sem]) rfl ⟨rfl,rfl⟩
theorem zbV(l:List UInt8):({ data:=l.toArray }:ByteArray)=bstr l:=rfl

def TxtE (T : List UInt8) (w : World) (e : Ending) (w' : World) : Prop := e = .returned (.string (bstr T)) /\ Below w.heap.size w w'
def WrC (w0 : World) (B : Nat) (x : Ex) : Prop := ∀ (op n : Int) (name : List UInt8) (args : List Ex) (v : Value) (w : World) (lv : Nat), x = .mk op n name args -> Below B w0 w -> B <= w.heap.size -> EsL w B args v -> lv <= 5 -> Calls Tryz.prog 63 #[.agg #[.int .u8 op, .int .i64 n, .string (bstr name), v], .int .i64 lv] w (TxtE (zak x (lv + 1)) w)
theorem zbW{op:Int}(h:zar op=6):zdk op=[]:=by unfold zdk;rw[yN (by omega)]
theorem zax(a b:List UInt8):bstr a++bstr b=bstr (a++b):=by
 unfold bstr;simp[ByteArray.append,ByteArray.ext_iff]
theorem zaC(a:List UInt8):(bstr a).size=a.length:=by simp[bstr,ByteArray.size]
theorem za1{w0 w:World}{gx B:Nat}{v0 v1 v2:Value}{args:List Ex}{a:Option Addr}{cap i lv:Nat}{y:Ex}(D:OwnV w gx 29 [v0,v1,v2,.slice a args.length cap])(u:EsL w B args (.slice a args.length cap))(j:Below B w0 w)(N:B<=w.heap.size)(m:lv<=5)(hi:args[i]? = some y)(G:WrC w0 B y) :
  Calls Tryz.prog 96 #[.int .i64 i,.int .i64 lv,.pointer (some ⟨gx,0,none⟩)] w (TxtE (zak y (lv+1)) w):=by
 have A:i<args.length:=by
  rcases Nat.lt_or_ge i args.length with h|h
  ·exact h
  ·rw[List.getElem?_eq_none h] at hi;cases hi
 obtain⟨b,I,op,n,name,d,X,S,rfl,U,K,E,P,R,J,L,g⟩:=u.at A;rw[hi] at E;cases E;have F:=zh (G op n name d _ w lv rfl j N g m);obtain⟨T,H⟩:∃T,zak (.mk op n name d) (lv+1)=T:=⟨_,rfl⟩;rw[H] at F ⊢;have O:=D.cell (i:=3) rfl;obtain⟨_,_,f,C,q⟩:=u.form;cases f;have M:(i:Int)<(args.length:Int):=by omega
 have Q:(0:Int)<=(i:Int):=by omega
 clear H G D u hi j g;go_enter Tryz.func96,Tryz.ntmps96
 go_wp2_with fail
 go_at_call 63;refine F.out.mono ?_;rintro V W⟨rfl,l⟩;have z:=zh l;clear l P R J L O;go_wp2_with fail
 exact yE (v:=.string (bstr T)) (by simp[results,Tryz.results96,go_sem]) rfl ⟨rfl,z.out⟩
theorem zbf(args:Array Value)(W:World):(callFunc 96 args).run Tryz.prog W=.ok (.enter 96 args) W:=(enters_of (P:=Tryz.prog) Tryz.func96 (by kernel_rfl) rfl) args W
theorem zis{w0 w:World}{B:Nat}  {v:Value}(M:EsL w B [] v)(E:Below B w0 w)(A:B<=w.heap.size)(lv:Nat)(U:lv<=5) :
  Calls Tryz.prog 63 #[.agg #[.int .u8 4,.int .i64 0,.string { data:=#[] },v],.int .i64 lv] w (TxtE ([116,105,99,107]) w):=by
 obtain⟨a,cap,rfl,V,X⟩:=M.form;have Z:=zmf Tryz.prog
 obtain⟨C,I,m,z⟩:∃C,C=w.alloc (.cells #[.int .u8 4,.int .i64 0,.string { data:=#[] },.slice a 0 cap] 29)/\Below w.heap.size w C/\OwnV C w.heap.size 29 [.int .u8 4,.int .i64 0,.string { data:=#[] },.slice a 0 cap]:=⟨_,rfl,(yR _ _).alloc (zr _) _,OwnV.new _ _ _⟩;have y:=zh (zbw 4 C);have D:zar 4=6:=by decide
 rw[D,zbW D,show bstr []=({ data:=#[] }:ByteArray) from rfl] at y;have O:=zh I;have H:=zh z;have g:=zh m;have Q:=zh (M.low (m.mono A));have j:=zh (E.trans (m.mono A));have L:=z.cell (i:=0) rfl;clear I z m M E;go_enter Tryz.func63,Tryz.ntmps63
 go_upto_region 1 with(fail)
 rw[<-O.out];go_wp2_with fail
 go_at_call 97;refine y.out.mono ?_;rintro e1 R⟨rfl,d⟩;have aa:=d.size;have q:=zh (H.out.below d (zr _));have l:=zh (g.out.trans (d.mono g.out.size));have K:=g.out.size;have J:=zh (Q.out.low (d.mono (yT A K)));have j:=zh (j.out.trans (d.mono (yT A K)));have P:=q.out.lt;clear d L H g Q y;have L:=q.out.cell (i:=0) rfl;have G:=zh (za7 R);go_wp2_with fail
 go_at_call 98;refine G.out.mono ?_;rintro e2 w2⟨rfl,-,f⟩;have W:=f.size;have F:=zh (q.out.below f (zr _));have N:=zh (l.out.trans (f.mono l.out.size));have u:w.heap.size<=R.heap.size:=l.out.size;have Y:=zh (J.out.low (f.mono (yT A u)));have j:=zh (j.out.trans (f.mono (yT A u)));have T:=F.out.lt;have S:B<=w2.heap.size:=by omega
 clear f L G q J l;have L:=F.out.cell (i:=0) rfl;go_wp2_with fail
 refine yE (v:=.string ({ data:=#[116,105,99,107] }:ByteArray)) (by simp[results,Tryz.results63,go_sem]) rfl ⟨rfl,N.out⟩
theorem zit{w0 w:World}{B:Nat}  {v:Value}(M:EsL w B [] v)(E:Below B w0 w)(A:B<=w.heap.size)(lv:Nat)(U:lv<=5) :
  Calls Tryz.prog 63 #[.agg #[.int .u8 5,.int .i64 0,.string { data:=#[] },v],.int .i64 lv] w (TxtE ([115,101,108,102]) w):=by
 obtain⟨a,cap,rfl,V,X⟩:=M.form;have Z:=zmf Tryz.prog
 obtain⟨C,I,m,z⟩:∃C,C=w.alloc (.cells #[.int .u8 5,.int .i64 0,.string { data:=#[] },.slice a 0 cap] 29)/\Below w.heap.size w C/\OwnV C w.heap.size 29 [.int .u8 5,.int .i64 0,.string { data:=#[] },.slice a 0 cap]:=⟨_,rfl,(yR _ _).alloc (zr _) _,OwnV.new _ _ _⟩;have y:=zh (zbw 5 C);have D:zar 5=6:=by decide
 rw[D,zbW D,show bstr []=({ data:=#[] }:ByteArray) from rfl] at y;have O:=zh I;have H:=zh z;have g:=zh m;have Q:=zh (M.low (m.mono A));have j:=zh (E.trans (m.mono A));have L:=z.cell (i:=0) rfl;clear I z m M E;go_enter Tryz.func63,Tryz.ntmps63
 go_upto_region 1 with(fail)
 rw[<-O.out];go_wp2_with fail
 go_at_call 97;refine y.out.mono ?_;rintro e1 R⟨rfl,d⟩;have aa:=d.size;have q:=zh (H.out.below d (zr _));have l:=zh (g.out.trans (d.mono g.out.size));have K:=g.out.size;have J:=zh (Q.out.low (d.mono (yT A K)));have j:=zh (j.out.trans (d.mono (yT A K)));have P:=q.out.lt;clear d L H g Q y;have L:=q.out.cell (i:=0) rfl;have G:=zh (za7 R);go_wp2_with fail
 go_at_call 98;refine G.out.mono ?_;rintro e2 w2⟨rfl,-,f⟩;have W:=f.size;have F:=zh (q.out.below f (zr _));have N:=zh (l.out.trans (f.mono l.out.size));have u:w.heap.size<=R.heap.size:=l.out.size;have Y:=zh (J.out.low (f.mono (yT A u)));have j:=zh (j.out.trans (f.mono (yT A u)));have T:=F.out.lt;have S:B<=w2.heap.size:=by omega
 clear f L G q J l;have L:=F.out.cell (i:=0) rfl;go_wp2_with fail
 refine yE (v:=.string ({ data:=#[115,101,108,102] }:ByteArray)) (by simp[results,Tryz.results63,go_sem]) rfl ⟨rfl,N.out⟩
theorem zi9{w0 w:World}{B:Nat}{name:List UInt8}{v:Value}(M:EsL w B [] v)(F:Below B w0 w)(C:B<=w.heap.size)(lv:Nat)(U:lv<=5) :
  Calls Tryz.prog 63 #[.agg #[.int .u8 2,.int .i64 0,.string (bstr name),v],.int .i64 lv] w (TxtE (name) w):=by
 obtain⟨a,cap,rfl,V,X⟩:=M.form;have Z:=zmf Tryz.prog
 obtain⟨D,I,m,A⟩:∃D,D=w.alloc (.cells #[.int .u8 2,.int .i64 0,.string (bstr name),.slice a 0 cap] 29)/\Below w.heap.size w D/\OwnV D w.heap.size 29 [.int .u8 2,.int .i64 0,.string (bstr name),.slice a 0 cap]:=⟨_,rfl,(yR _ _).alloc (zr _) _,OwnV.new _ _ _⟩;have z:=zh (zbw 2 D);have E:zar 2=6:=by decide
 rw[E,zbW E,show bstr []=({ data:=#[] }:ByteArray) from rfl] at z;have O:=zh I;have H:=zh A;have g:=zh m;have Q:=zh (M.low (m.mono C));have j:=zh (F.trans (m.mono C));have L:=A.cell (i:=0) rfl;clear I A m M F;go_enter Tryz.func63,Tryz.ntmps63
 go_upto_region 1 with(fail)
 rw[<-O.out];go_wp2_with fail
 go_at_call 97;refine z.out.mono ?_;rintro e1 R⟨rfl,d⟩;have aa:=d.size;have q:=zh (H.out.below d (zr _));have l:=zh (g.out.trans (d.mono g.out.size));have K:=g.out.size;have J:=zh (Q.out.low (d.mono (yT C K)));have j:=zh (j.out.trans (d.mono (yT C K)));have P:=q.out.lt;clear d L H g Q z;have L:=q.out.cell (i:=0) rfl;have G:=zh (za7 R);go_wp2_with fail
 go_at_call 98;refine G.out.mono ?_;rintro e2 w2⟨rfl,-,f⟩;have W:=f.size;have y:=zh (q.out.below f (zr _));have N:=zh (l.out.trans (f.mono l.out.size));have u:w.heap.size<=R.heap.size:=l.out.size;have Y:=zh (J.out.low (f.mono (yT C u)));have j:=zh (j.out.trans (f.mono (yT C u)));have T:=y.out.lt;have S:B<=w2.heap.size:=by omega
 clear f L G q J l;have L:=y.out.cell (i:=0) rfl;have x2:=y.out.cell (i:=2) rfl;go_wp2_with fail
 refine yE (v:=.string (bstr name)) (by simp[results,Tryz.results63,go_sem]) rfl ⟨rfl,N.out⟩
theorem zja{w0 w:World}{B:Nat}{n:Int}(h0:0<=n)(h1:n<=9223372036854775807)(Y:Glob w){v:Value}(Q:EsL w B [] v)(F:Below B w0 w)(C:B<=w.heap.size)(lv:Nat)(Z:lv<=5) :
  Calls Tryz.prog 63 #[.agg #[.int .u8 1,.int .i64 n,.string { data:=#[] },v],.int .i64 lv] w (TxtE (Lib.decDigits n.toNat) w):=by
 obtain⟨a,cap,rfl,aa,ac⟩:=Q.form;have ae:=zmf Tryz.prog
 obtain⟨D,K,m,A⟩:∃D,D=w.alloc (.cells #[.int .u8 1,.int .i64 n,.string { data:=#[] },.slice a 0 cap] 29)/\Below w.heap.size w D/\OwnV D w.heap.size 29 [.int .u8 1,.int .i64 n,.string { data:=#[] },.slice a 0 cap]:=⟨_,rfl,(yR _ _).alloc (zr _) _,OwnV.new _ _ _⟩;have z:=zh (zbw 1 D);have E:zar 1=6:=by decide
 rw[E,zbW E,show bstr []=({ data:=#[] }:ByteArray) from rfl] at z;have R:=zh K;have I:=zh A;have g:=zh m;have T:=zh (Q.low (m.mono C));have j:=zh (F.trans (m.mono C));have J:=A.cell (i:=0) rfl;clear K A m Q F;go_enter Tryz.func63,Tryz.ntmps63
 go_upto_region 1 with(fail)
 rw[<-R.out];go_wp2_with fail
 go_at_call 97;refine z.out.mono ?_;rintro e1 U⟨rfl,d⟩;have af:=d.size;have q:=zh (I.out.below d (zr _));have l:=zh (g.out.trans (d.mono g.out.size));have M:=g.out.size;have L:=zh (T.out.low (d.mono (yT C M)));have j:=zh (j.out.trans (d.mono (yT C M)));have S:=q.out.lt;clear d J I g T z;have J:=q.out.cell (i:=0) rfl;have H:=zh (za7 U);go_wp2_with fail
 go_at_call 98;refine H.out.mono ?_;rintro e2 w2⟨rfl,-,f⟩;have ab:=f.size;have G:=zh (q.out.below f (zr _));have y:=zh (l.out.trans (f.mono l.out.size));have u:w.heap.size<=U.heap.size:=l.out.size;have ad:=zh (L.out.low (f.mono (yT C u)));have j:=zh (j.out.trans (f.mono (yT C u)));have W:=G.out.lt;have V:B<=w2.heap.size:=by omega
 clear f J H q L l;have N:=Y.below y.out Y.size;have O:=zh (Tryz.strconv_Itoa n (by omega) h1 w2 N.pow);rw[show Lib.itoa n=Lib.decDigits n.toNat from by unfold Lib.itoa;rw[yN (by omega)]] at O;obtain⟨J,x1⟩:=yc2 G.out;go_wp2_with fail
 go_at_call 99;refine O.out.mono ?_;rintro e3 w3⟨rfl,k,os,X⟩;have P:Hid (Below w.heap.size w w3):=zh (by rw[X];exact y.out.trans (Lib.below_grow _ _ y.out.size _ _));clear X O J x1;go_wp2_with fail
 refine yE (v:=.string ({ data:=(Lib.decDigits n.toNat).toArray }:ByteArray)) (by simp[results,Tryz.results63,go_sem]) rfl ⟨rfl,P.out⟩
theorem zjb{w0 w:World}{B:Nat}{x:Ex}(h0:WrC w0 B x)(ac:∀k,(zak x k).length<=1000000000000000){v:Value}(V:EsL w B [x] v)(L:Below B w0 w)(H:B<=w.heap.size)(lv:Nat)(ah:lv<=5) :
  Calls Tryz.prog 63 #[.agg #[.int .u8 7,.int .i64 0,.string { data:=#[] },v],.int .i64 lv] w (TxtE ([45]++zak x 6) w):=by
 obtain⟨a,cap,rfl,ai,ak⟩:=V.form;have an:=zmf Tryz.prog
 obtain⟨J,Q,z,G⟩:∃J,J=w.alloc (.cells #[.int .u8 7,.int .i64 0,.string { data:=#[] },.slice a 1 cap] 29)/\Below w.heap.size w J/\OwnV J w.heap.size 29 [.int .u8 7,.int .i64 0,.string { data:=#[] },.slice a 1 cap]:=⟨_,rfl,(yR _ _).alloc (zr _) _,OwnV.new _ _ _⟩;have F:=zh (zbw 7 J);have K:zar 7=6:=by decide
 rw[K,zbW K,show bstr []=({ data:=#[] }:ByteArray) from rfl] at F;obtain⟨TX,D⟩:∃T,([45]++zak x 6)=T:=⟨_,rfl⟩;rw[D];have Y:=zh D;clear D;have aa:=zh Q;have O:=zh G;have q:=zh z;have HL:=zh (V.low (z.mono H));have g:=zh (L.trans (z.mono H));have P:=G.cell (i:=0) rfl;clear Q G z V L;go_enter Tryz.func63,Tryz.ntmps63
 go_upto_region 1 with(fail)
 rw[<-aa.out];go_wp2_with fail
 go_at_call 97;refine F.out.mono ?_;rintro e1 w1⟨rfl,f⟩;have ao:=f.size;have A:=zh (O.out.below f (zr _));have u:=zh (q.out.trans (f.mono q.out.size));have I:=q.out.size;have R:=zh (HL.out.low (f.mono (yT H I)));have g:=zh (g.out.trans (f.mono (yT H I)));have ad:=A.out.lt;clear f P O q HL F;have P:=A.out.cell (i:=0) rfl;have M:=zh (za7 w1);go_wp2_with fail
 go_at_call 98;refine M.out.mono ?_;rintro e2 w2⟨rfl,-,d⟩;have aj:=d.size;have E:=zh (A.out.below d (zr _));have N:=zh (u.out.trans (d.mono u.out.size));have C:w.heap.size<=w1.heap.size:=u.out.size;have ab:=zh (R.out.low (d.mono (yT H C)));have g:=zh (g.out.trans (d.mono (yT H C)));have af:=E.out.lt;have ae:B<=w2.heap.size:=by omega
 clear d P M A R u;have j:Hid (∀W,Below w2.heap.size w2 W->Calls Tryz.prog 96 #[.int .i64 0,.int .i64 5,.pointer (some ⟨w.heap.size,0,none⟩)] W (TxtE (zak x 6) W)):=zh (fun W hb=>za1 (w0:=w0) (i:=0) (lv:=5) (y:=x) (E.out.below hb (zr _)) (ab.out.low (hb.mono (by omega))) (g.out.trans (hb.mono (by omega))) (by have:=hb.size;omega) (by omega) rfl h0);obtain⟨T0,m⟩:∃T,zak x 6=T:=⟨_,rfl⟩;obtain⟨U,l⟩:∃S,bstr T0=S:=⟨_,rfl⟩;have ag:U.size<=1000000000000000:=by rw[<-l,zaC,<-m];exact ac _
 rw[m] at j;unfold TxtE at j;simp only[l] at j;have Z:=zh (show U=bstr (zak x 6) from by rw[m,l]);clear m l;have am:=zbf;have P:=E.out.cell (i:=0) rfl;go_wp2_with fail
 refine(j.out _ (yR _ _)).mono ?_;rintro e3 w3⟨rfl,d⟩;have X:=zh d;clear d j;clear P;go_wp2_with fail
 refine yE (v:=.string (({ data:=#[45] }:ByteArray)++U)) (by simp[results,Tryz.results63,go_sem]) rfl ⟨?_,N.out.trans (X.out.mono N.out.size)⟩;rw[<-Y.out,Z.out];simp[zax,zbV]
theorem zjc{w0 w:World}{B:Nat}{x:Ex}(h0:WrC w0 B x)(ac:∀k,(zak x k).length<=1000000000000000){v:Value}(V:EsL w B [x] v)(L:Below B w0 w)(H:B<=w.heap.size)(lv:Nat)(ah:lv<=5) :
  Calls Tryz.prog 63 #[.agg #[.int .u8 8,.int .i64 0,.string { data:=#[] },v],.int .i64 lv] w (TxtE ([33]++zak x 6) w):=by
 obtain⟨a,cap,rfl,ai,ak⟩:=V.form;have an:=zmf Tryz.prog
 obtain⟨J,Q,z,G⟩:∃J,J=w.alloc (.cells #[.int .u8 8,.int .i64 0,.string { data:=#[] },.slice a 1 cap] 29)/\Below w.heap.size w J/\OwnV J w.heap.size 29 [.int .u8 8,.int .i64 0,.string { data:=#[] },.slice a 1 cap]:=⟨_,rfl,(yR _ _).alloc (zr _) _,OwnV.new _ _ _⟩;have F:=zh (zbw 8 J);have K:zar 8=6:=by decide
 rw[K,zbW K,show bstr []=({ data:=#[] }:ByteArray) from rfl] at F;obtain⟨TX,D⟩:∃T,([33]++zak x 6)=T:=⟨_,rfl⟩;rw[D];have Y:=zh D;clear D;have aa:=zh Q;have O:=zh G;have q:=zh z;have HL:=zh (V.low (z.mono H));have g:=zh (L.trans (z.mono H));have P:=G.cell (i:=0) rfl;clear Q G z V L;go_enter Tryz.func63,Tryz.ntmps63
 go_upto_region 1 with(fail)
 rw[<-aa.out];go_wp2_with fail
 go_at_call 97;refine F.out.mono ?_;rintro e1 w1⟨rfl,f⟩;have ao:=f.size;have A:=zh (O.out.below f (zr _));have u:=zh (q.out.trans (f.mono q.out.size));have I:=q.out.size;have R:=zh (HL.out.low (f.mono (yT H I)));have g:=zh (g.out.trans (f.mono (yT H I)));have ad:=A.out.lt;clear f P O q HL F;have P:=A.out.cell (i:=0) rfl;have M:=zh (za7 w1);go_wp2_with fail
 go_at_call 98;refine M.out.mono ?_;rintro e2 w2⟨rfl,-,d⟩;have aj:=d.size;have E:=zh (A.out.below d (zr _));have N:=zh (u.out.trans (d.mono u.out.size));have C:w.heap.size<=w1.heap.size:=u.out.size;have ab:=zh (R.out.low (d.mono (yT H C)));have g:=zh (g.out.trans (d.mono (yT H C)));have af:=E.out.lt;have ae:B<=w2.heap.size:=by omega
 clear d P M A R u;have j:Hid (∀W,Below w2.heap.size w2 W->Calls Tryz.prog 96 #[.int .i64 0,.int .i64 5,.pointer (some ⟨w.heap.size,0,none⟩)] W (TxtE (zak x 6) W)):=zh (fun W hb=>za1 (w0:=w0) (i:=0) (lv:=5) (y:=x) (E.out.below hb (zr _)) (ab.out.low (hb.mono (by omega))) (g.out.trans (hb.mono (by omega))) (by have:=hb.size;omega) (by omega) rfl h0);obtain⟨T0,m⟩:∃T,zak x 6=T:=⟨_,rfl⟩;obtain⟨U,l⟩:∃S,bstr T0=S:=⟨_,rfl⟩;have ag:U.size<=1000000000000000:=by rw[<-l,zaC,<-m];exact ac _
 rw[m] at j;unfold TxtE at j;simp only[l] at j;have Z:=zh (show U=bstr (zak x 6) from by rw[m,l]);clear m l;have am:=zbf;have P:=E.out.cell (i:=0) rfl;go_wp2_with fail
 refine(j.out _ (yR _ _)).mono ?_;rintro e3 w3⟨rfl,d⟩;have X:=zh d;clear d j;clear P;go_wp2_with fail
 refine yE (v:=.string (({ data:=#[33] }:ByteArray)++U)) (by simp[results,Tryz.results63,go_sem]) rfl ⟨?_,N.out.trans (X.out.mono N.out.size)⟩;rw[<-Y.out,Z.out];simp[zax,zbV]
theorem ziu{w0 w:World}{B:Nat}{x:Ex}(h0:WrC w0 B x)(ac:∀k,(zak x k).length<=1000000000000000){v:Value}(V:EsL w B [x] v)(L:Below B w0 w)(H:B<=w.heap.size)(lv:Nat)(ah:lv<=5) :
  Calls Tryz.prog 63 #[.agg #[.int .u8 6,.int .i64 0,.string { data:=#[] },v],.int .i64 lv] w (TxtE ([114,97,110,100,40]++zak x 1++[41]) w):=by
 obtain⟨a,cap,rfl,ai,ak⟩:=V.form;have an:=zmf Tryz.prog
 obtain⟨J,Q,z,G⟩:∃J,J=w.alloc (.cells #[.int .u8 6,.int .i64 0,.string { data:=#[] },.slice a 1 cap] 29)/\Below w.heap.size w J/\OwnV J w.heap.size 29 [.int .u8 6,.int .i64 0,.string { data:=#[] },.slice a 1 cap]:=⟨_,rfl,(yR _ _).alloc (zr _) _,OwnV.new _ _ _⟩;have F:=zh (zbw 6 J);have K:zar 6=6:=by decide
 rw[K,zbW K,show bstr []=({ data:=#[] }:ByteArray) from rfl] at F;obtain⟨TX,D⟩:∃T,([114,97,110,100,40]++zak x 1++[41])=T:=⟨_,rfl⟩;rw[D];have Y:=zh D;clear D;have aa:=zh Q;have O:=zh G;have q:=zh z;have HL:=zh (V.low (z.mono H));have g:=zh (L.trans (z.mono H));have P:=G.cell (i:=0) rfl;clear Q G z V L;go_enter Tryz.func63,Tryz.ntmps63
 go_upto_region 1 with(fail)
 rw[<-aa.out];go_wp2_with fail
 go_at_call 97;refine F.out.mono ?_;rintro e1 w1⟨rfl,f⟩;have ao:=f.size;have A:=zh (O.out.below f (zr _));have u:=zh (q.out.trans (f.mono q.out.size));have I:=q.out.size;have R:=zh (HL.out.low (f.mono (yT H I)));have g:=zh (g.out.trans (f.mono (yT H I)));have ad:=A.out.lt;clear f P O q HL F;have P:=A.out.cell (i:=0) rfl;have M:=zh (za7 w1);go_wp2_with fail
 go_at_call 98;refine M.out.mono ?_;rintro e2 w2⟨rfl,-,d⟩;have aj:=d.size;have E:=zh (A.out.below d (zr _));have N:=zh (u.out.trans (d.mono u.out.size));have C:w.heap.size<=w1.heap.size:=u.out.size;have ab:=zh (R.out.low (d.mono (yT H C)));have g:=zh (g.out.trans (d.mono (yT H C)));have af:=E.out.lt;have ae:B<=w2.heap.size:=by omega
 clear d P M A R u;have j:Hid (∀W,Below w2.heap.size w2 W->Calls Tryz.prog 96 #[.int .i64 0,.int .i64 0,.pointer (some ⟨w.heap.size,0,none⟩)] W (TxtE (zak x 1) W)):=zh (fun W hb=>za1 (w0:=w0) (i:=0) (lv:=0) (y:=x) (E.out.below hb (zr _)) (ab.out.low (hb.mono (by omega))) (g.out.trans (hb.mono (by omega))) (by have:=hb.size;omega) (by omega) rfl h0);obtain⟨T0,m⟩:∃T,zak x 1=T:=⟨_,rfl⟩;obtain⟨U,l⟩:∃S,bstr T0=S:=⟨_,rfl⟩;have ag:U.size<=1000000000000000:=by rw[<-l,zaC,<-m];exact ac _
 rw[m] at j;unfold TxtE at j;simp only[l] at j;have Z:=zh (show U=bstr (zak x 1) from by rw[m,l]);clear m l;have am:=zbf;have P:=E.out.cell (i:=0) rfl;go_wp2_with fail
 refine(j.out _ (yR _ _)).mono ?_;rintro e3 w3⟨rfl,d⟩;have X:=zh d;clear d j;clear P;go_wp2_with fail
 refine yE (v:=.string (({ data:=#[114,97,110,100,40] }:ByteArray)++U++{ data:=#[41] })) (by simp[results,Tryz.results63,go_sem]) rfl ⟨?_,N.out.trans (X.out.mono N.out.size)⟩;rw[<-Y.out,Z.out];simp[zax,zbV]
theorem zjd{w0 w:World}{B:Nat}{x:Ex}(h0:WrC w0 B x)(ac:∀k,(zak x k).length<=1000000000000000){v:Value}(V:EsL w B [x] v)(L:Below B w0 w)(H:B<=w.heap.size)(lv:Nat)(ah:lv<=5) :
  Calls Tryz.prog 63 #[.agg #[.int .u8 9,.int .i64 0,.string { data:=#[] },v],.int .i64 lv] w (TxtE ([97,98,115,40]++zak x 1++[41]) w):=by
 obtain⟨a,cap,rfl,ai,ak⟩:=V.form;have an:=zmf Tryz.prog
 obtain⟨J,Q,z,G⟩:∃J,J=w.alloc (.cells #[.int .u8 9,.int .i64 0,.string { data:=#[] },.slice a 1 cap] 29)/\Below w.heap.size w J/\OwnV J w.heap.size 29 [.int .u8 9,.int .i64 0,.string { data:=#[] },.slice a 1 cap]:=⟨_,rfl,(yR _ _).alloc (zr _) _,OwnV.new _ _ _⟩;have F:=zh (zbw 9 J);have K:zar 9=6:=by decide
 rw[K,zbW K,show bstr []=({ data:=#[] }:ByteArray) from rfl] at F;obtain⟨TX,D⟩:∃T,([97,98,115,40]++zak x 1++[41])=T:=⟨_,rfl⟩;rw[D];have Y:=zh D;clear D;have aa:=zh Q;have O:=zh G;have q:=zh z;have HL:=zh (V.low (z.mono H));have g:=zh (L.trans (z.mono H));have P:=G.cell (i:=0) rfl;clear Q G z V L;go_enter Tryz.func63,Tryz.ntmps63
 go_upto_region 1 with(fail)
 rw[<-aa.out];go_wp2_with fail
 go_at_call 97;refine F.out.mono ?_;rintro e1 w1⟨rfl,f⟩;have ao:=f.size;have A:=zh (O.out.below f (zr _));have u:=zh (q.out.trans (f.mono q.out.size));have I:=q.out.size;have R:=zh (HL.out.low (f.mono (yT H I)));have g:=zh (g.out.trans (f.mono (yT H I)));have ad:=A.out.lt;clear f P O q HL F;have P:=A.out.cell (i:=0) rfl;have M:=zh (za7 w1);go_wp2_with fail
 go_at_call 98;refine M.out.mono ?_;rintro e2 w2⟨rfl,-,d⟩;have aj:=d.size;have E:=zh (A.out.below d (zr _));have N:=zh (u.out.trans (d.mono u.out.size));have C:w.heap.size<=w1.heap.size:=u.out.size;have ab:=zh (R.out.low (d.mono (yT H C)));have g:=zh (g.out.trans (d.mono (yT H C)));have af:=E.out.lt;have ae:B<=w2.heap.size:=by omega
 clear d P M A R u;have j:Hid (∀W,Below w2.heap.size w2 W->Calls Tryz.prog 96 #[.int .i64 0,.int .i64 0,.pointer (some ⟨w.heap.size,0,none⟩)] W (TxtE (zak x 1) W)):=zh (fun W hb=>za1 (w0:=w0) (i:=0) (lv:=0) (y:=x) (E.out.below hb (zr _)) (ab.out.low (hb.mono (by omega))) (g.out.trans (hb.mono (by omega))) (by have:=hb.size;omega) (by omega) rfl h0);obtain⟨T0,m⟩:∃T,zak x 1=T:=⟨_,rfl⟩;obtain⟨U,l⟩:∃S,bstr T0=S:=⟨_,rfl⟩;have ag:U.size<=1000000000000000:=by rw[<-l,zaC,<-m];exact ac _
 rw[m] at j;unfold TxtE at j;simp only[l] at j;have Z:=zh (show U=bstr (zak x 1) from by rw[m,l]);clear m l;have am:=zbf;have P:=E.out.cell (i:=0) rfl;go_wp2_with fail
 refine(j.out _ (yR _ _)).mono ?_;rintro e3 w3⟨rfl,d⟩;have X:=zh d;clear d j;clear P;go_wp2_with fail
 refine yE (v:=.string (({ data:=#[97,98,115,40] }:ByteArray)++U++{ data:=#[41] })) (by simp[results,Tryz.results63,go_sem]) rfl ⟨?_,N.out.trans (X.out.mono N.out.size)⟩;rw[<-Y.out,Z.out];simp[zax,zbV]
theorem zje{w0 w:World}{B:Nat}{x y:Ex}(h0:WrC w0 B x)(h1:WrC w0 B y)(aa:∀k,(zak x k).length<=1000000000000000)(ab:∀k,(zak y k).length<=1000000000000000){v:Value}(hL:EsL w B [x,y] v)(P:Below B w0 w)(L:B<=w.heap.size)(lv:Nat)(an:lv<=5) :
  Calls Tryz.prog 63 #[.agg #[.int .u8 23,.int .i64 0,.string { data:=#[] },v],.int .i64 lv] w (TxtE ([109,105,110,40]++zak x 1++[44,32]++zak y 1++[41]) w):=by
 obtain⟨a,cap,rfl,ao,aq⟩:=hL.form;have au:=zmf Tryz.prog
 obtain⟨N,Z,E,K⟩:∃N,N=w.alloc (.cells #[.int .u8 23,.int .i64 0,.string { data:=#[] },.slice a 2 cap] 29)/\Below w.heap.size w N/\OwnV N w.heap.size 29 [.int .u8 23,.int .i64 0,.string { data:=#[] },.slice a 2 cap]:=⟨_,rfl,(yR _ _).alloc (zr _) _,OwnV.new _ _ _⟩;have J:=zh (zbw 23 N);have O:zar 23=6:=by decide
 rw[O,zbW O,show bstr []=({ data:=#[] }:ByteArray) from rfl] at J;obtain⟨TX,H⟩:∃T,([109,105,110,40]++zak x 1++[44,32]++zak y 1++[41])=T:=⟨_,rfl⟩;rw[H];have ac:=zh H;clear H;have af:=zh Z;have U:=zh K;have u:=zh E;have HL:=zh (hL.low (E.mono L));have f:=zh (P.trans (E.mono L));have V:=K.cell (i:=0) rfl;clear Z K E hL P;go_enter Tryz.func63,Tryz.ntmps63
 go_upto_region 1 with(fail)
 rw[<-af.out];go_wp2_with fail
 go_at_call 97;refine J.out.mono ?_;rintro e1 w1⟨rfl,g⟩;have av:=g.size;have F:=zh (U.out.below g (zr _));have C:=zh (u.out.trans (g.mono u.out.size));have M:=u.out.size;have Y:=zh (HL.out.low (g.mono (yT L M)));have f:=zh (f.out.trans (g.mono (yT L M)));have ah:=F.out.lt;clear g V U u HL J;have V:=F.out.cell (i:=0) rfl;have Q:=zh (za7 w1);go_wp2_with fail
 go_at_call 98;refine Q.out.mono ?_;rintro e2 w2⟨rfl,-,d⟩;have ap:=d.size;have z:=zh (F.out.below d (zr _));have R:=zh (C.out.trans (d.mono C.out.size));have G:w.heap.size<=w1.heap.size:=C.out.size;have X:=zh (Y.out.low (d.mono (yT L G)));have f:=zh (f.out.trans (d.mono (yT L G)));have ak:=z.out.lt;have aj:B<=w2.heap.size:=by omega
 clear d V Q F Y C;have l:Hid (∀W,Below w2.heap.size w2 W->Calls Tryz.prog 96 #[.int .i64 0,.int .i64 0,.pointer (some ⟨w.heap.size,0,none⟩)] W (TxtE (zak x 1) W)):=zh (fun W hb=>za1 (w0:=w0) (i:=0) (lv:=0) (y:=x) (z.out.below hb (zr _)) (X.out.low (hb.mono (by omega))) (f.out.trans (hb.mono (by omega))) (by have:=hb.size;omega) (by omega) rfl h0);obtain⟨T0,q⟩:∃T,zak x 1=T:=⟨_,rfl⟩;obtain⟨S0,m⟩:∃S,bstr T0=S:=⟨_,rfl⟩;have am:S0.size<=1000000000000000:=by rw[<-m,zaC,<-q];exact aa _
 rw[q] at l;unfold TxtE at l;simp only[m] at l;have ae:=zh (show S0=bstr (zak x 1) from by rw[q,m]);clear q m;have j:Hid (∀W,Below w2.heap.size w2 W->Calls Tryz.prog 96 #[.int .i64 1,.int .i64 0,.pointer (some ⟨w.heap.size,0,none⟩)] W (TxtE (zak y 1) W)):=zh (fun W hb=>za1 (w0:=w0) (i:=1) (lv:=0) (y:=y) (z.out.below hb (zr _)) (X.out.low (hb.mono (by omega))) (f.out.trans (hb.mono (by omega))) (by have:=hb.size;omega) (by omega) rfl h1);obtain⟨T1,D⟩:∃T,zak y 1=T:=⟨_,rfl⟩;obtain⟨S1,A⟩:∃S,bstr T1=S:=⟨_,rfl⟩;have ai:S1.size<=1000000000000000:=by rw[<-A,zaC,<-D];exact ab _
 rw[D] at j;unfold TxtE at j;simp only[A] at j;have ad:=zh (show S1=bstr (zak y 1) from by rw[D,A]);clear D A;have ar:=zbf;have V:=z.out.cell (i:=0) rfl;go_wp2_with fail
 refine(l.out _ (yR _ _)).mono ?_;rintro e3 w3⟨rfl,d⟩;have I:=zh d;clear d l;clear V;go_wp2_with fail
 refine(j.out _ I.out).mono ?_;rintro e4 w4⟨rfl,d⟩;have ag:=zh (I.out.trans (d.mono I.out.size));clear d j;go_wp2_with fail
 refine yE (v:=.string ((({ data:=#[109,105,110,40] }:ByteArray)++S0++{ data:=#[44,32] })++S1++{ data:=#[41] })) (by simp[results,Tryz.results63,go_sem]) rfl ⟨?_,R.out.trans (ag.out.mono R.out.size)⟩;rw[<-ac.out,ae.out,ad.out];simp[zax,zbV]
theorem zjf{w0 w:World}{B:Nat}{x y:Ex}(h0:WrC w0 B x)(h1:WrC w0 B y)(aa:∀k,(zak x k).length<=1000000000000000)(ab:∀k,(zak y k).length<=1000000000000000){v:Value}(hL:EsL w B [x,y] v)(P:Below B w0 w)(L:B<=w.heap.size)(lv:Nat)(an:lv<=5) :
  Calls Tryz.prog 63 #[.agg #[.int .u8 24,.int .i64 0,.string { data:=#[] },v],.int .i64 lv] w (TxtE ([109,97,120,40]++zak x 1++[44,32]++zak y 1++[41]) w):=by
 obtain⟨a,cap,rfl,ao,aq⟩:=hL.form;have au:=zmf Tryz.prog
 obtain⟨N,Z,E,K⟩:∃N,N=w.alloc (.cells #[.int .u8 24,.int .i64 0,.string { data:=#[] },.slice a 2 cap] 29)/\Below w.heap.size w N/\OwnV N w.heap.size 29 [.int .u8 24,.int .i64 0,.string { data:=#[] },.slice a 2 cap]:=⟨_,rfl,(yR _ _).alloc (zr _) _,OwnV.new _ _ _⟩;have J:=zh (zbw 24 N);have O:zar 24=6:=by decide
 rw[O,zbW O,show bstr []=({ data:=#[] }:ByteArray) from rfl] at J;obtain⟨TX,H⟩:∃T,([109,97,120,40]++zak x 1++[44,32]++zak y 1++[41])=T:=⟨_,rfl⟩;rw[H];have ac:=zh H;clear H;have af:=zh Z;have U:=zh K;have u:=zh E;have HL:=zh (hL.low (E.mono L));have f:=zh (P.trans (E.mono L));have V:=K.cell (i:=0) rfl;clear Z K E hL P;go_enter Tryz.func63,Tryz.ntmps63
 go_upto_region 1 with(fail)
 rw[<-af.out];go_wp2_with fail
 go_at_call 97;refine J.out.mono ?_;rintro e1 w1⟨rfl,g⟩;have av:=g.size;have F:=zh (U.out.below g (zr _));have C:=zh (u.out.trans (g.mono u.out.size));have M:=u.out.size;have Y:=zh (HL.out.low (g.mono (yT L M)));have f:=zh (f.out.trans (g.mono (yT L M)));have ah:=F.out.lt;clear g V U u HL J;have V:=F.out.cell (i:=0) rfl;have Q:=zh (za7 w1);go_wp2_with fail
 go_at_call 98;refine Q.out.mono ?_;rintro e2 w2⟨rfl,-,d⟩;have ap:=d.size;have z:=zh (F.out.below d (zr _));have R:=zh (C.out.trans (d.mono C.out.size));have G:w.heap.size<=w1.heap.size:=C.out.size;have X:=zh (Y.out.low (d.mono (yT L G)));have f:=zh (f.out.trans (d.mono (yT L G)));have ak:=z.out.lt;have aj:B<=w2.heap.size:=by omega
 clear d V Q F Y C;have l:Hid (∀W,Below w2.heap.size w2 W->Calls Tryz.prog 96 #[.int .i64 0,.int .i64 0,.pointer (some ⟨w.heap.size,0,none⟩)] W (TxtE (zak x 1) W)):=zh (fun W hb=>za1 (w0:=w0) (i:=0) (lv:=0) (y:=x) (z.out.below hb (zr _)) (X.out.low (hb.mono (by omega))) (f.out.trans (hb.mono (by omega))) (by have:=hb.size;omega) (by omega) rfl h0);obtain⟨T0,q⟩:∃T,zak x 1=T:=⟨_,rfl⟩;obtain⟨S0,m⟩:∃S,bstr T0=S:=⟨_,rfl⟩;have am:S0.size<=1000000000000000:=by rw[<-m,zaC,<-q];exact aa _
 rw[q] at l;unfold TxtE at l;simp only[m] at l;have ae:=zh (show S0=bstr (zak x 1) from by rw[q,m]);clear q m;have j:Hid (∀W,Below w2.heap.size w2 W->Calls Tryz.prog 96 #[.int .i64 1,.int .i64 0,.pointer (some ⟨w.heap.size,0,none⟩)] W (TxtE (zak y 1) W)):=zh (fun W hb=>za1 (w0:=w0) (i:=1) (lv:=0) (y:=y) (z.out.below hb (zr _)) (X.out.low (hb.mono (by omega))) (f.out.trans (hb.mono (by omega))) (by have:=hb.size;omega) (by omega) rfl h1);obtain⟨T1,D⟩:∃T,zak y 1=T:=⟨_,rfl⟩;obtain⟨S1,A⟩:∃S,bstr T1=S:=⟨_,rfl⟩;have ai:S1.size<=1000000000000000:=by rw[<-A,zaC,<-D];exact ab _
 rw[D] at j;unfold TxtE at j;simp only[A] at j;have ad:=zh (show S1=bstr (zak y 1) from by rw[D,A]);clear D A;have ar:=zbf;have V:=z.out.cell (i:=0) rfl;go_wp2_with fail
 refine(l.out _ (yR _ _)).mono ?_;rintro e3 w3⟨rfl,d⟩;have I:=zh d;clear d l;clear V;go_wp2_with fail
 refine(j.out _ I.out).mono ?_;rintro e4 w4⟨rfl,d⟩;have ag:=zh (I.out.trans (d.mono I.out.size));clear d j;go_wp2_with fail
 refine yE (v:=.string ((({ data:=#[109,97,120,40] }:ByteArray)++S0++{ data:=#[44,32] })++S1++{ data:=#[41] })) (by simp[results,Tryz.results63,go_sem]) rfl ⟨?_,R.out.trans (ag.out.mono R.out.size)⟩;rw[<-ac.out,ae.out,ad.out];simp[zax,zbV]
end Go.Proofs.YtoaojdobjinhfaaGreatDoor
