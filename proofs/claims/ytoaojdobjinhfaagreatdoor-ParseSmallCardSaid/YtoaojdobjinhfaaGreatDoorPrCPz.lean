/- The program's printer: written, the greater cases. Printed by gen_pwritten.py. -/
import Derived.Test.YtoaojdobjinhfaaGreatDoorPrAPz
set_option linter.unusedSimpArgs false
set_option linter.unusedVariables false
set_option maxRecDepth 100000
set_option maxHeartbeats 1000000
namespace Go.Proofs.YtoaojdobjinhfaaGreatDoor
open Go.RowKit

theorem zjG{N:Nat}(f:1<=N)(d:N<=10):kindWordsP[N]? = some (kindWords.getD (N-1) []):=by
 have:N=1∨N=2∨N=3∨N=4∨N=5∨N=6∨N=7∨N=8∨N=9∨N=10:=by omega
 rcases this with rfl|rfl|rfl|rfl|rfl|rfl|rfl|rfl|rfl|rfl <;> rfl
theorem zkq{w:World}{v:Value}(h:Strs w kindWordsP v){N:Nat}(g:1<=N)(f:N<=10):∃b d cap,v=.slice (some ⟨b,d,none⟩) 11 cap/\w.cell? ⟨b,d+N,none⟩=some (.string (bstr (kindWords.getD (N-1) []))):=by
 obtain⟨a,cap,rfl,-,-,-,j⟩:=h;obtain⟨b,d,rfl,i⟩:=j (by decide);refine⟨b,d,cap,rfl,?_⟩;rw[i N (by show N<11*1;omega),List.getElem?_map,zjG g f];rfl
theorem ziv{w0 w:World}{B:Nat}{x:Ex}{N:Nat}(aj:1<=N)(ae:N<=10)(h0:WrC w0 B x)(ad:∀k,(zak x k).length<=1000000000000000){v:Value}(hL:EsL w B [x] v)(V:Below B w0 w)(O:B<=w.heap.size)(lv:Nat)(au:lv<=5) :
  Calls Tryz.prog 63 #[.agg #[.int .u8 3,.int .i64 (N:Int),.string { data:=#[] },v],.int .i64 lv] w (TxtE (kindWords.getD (N-1) []++[91]++zak x 1++[93]) w):=by
 obtain⟨a,cap,rfl,aw,aA⟩:=hL.form;have aD:=zmf Tryz.prog
 obtain⟨R,ab,D,L⟩:∃R,R=w.alloc (.cells #[.int .u8 3,.int .i64 (N:Int),.string { data:=#[] },.slice a 1 cap] 29)/\Below w.heap.size w R/\OwnV R w.heap.size 29 [.int .u8 3,.int .i64 (N:Int),.string { data:=#[] },.slice a 1 cap]:=⟨_,rfl,(yR _ _).alloc (zr _) _,OwnV.new _ _ _⟩;have J:=zh (zbw 3 R);have U:zar 3=6:=by decide
 rw[U,zbW U,show bstr []=({ data:=#[] }:ByteArray) from rfl] at J;obtain⟨TX,H⟩:∃T,(kindWords.getD (N-1) []++[91]++zak x 1++[93])=T:=⟨_,rfl⟩;rw[H];have af:=zh H;clear H;have ah:=zh ab;have Y:=zh L;have z:=zh D;have HL:=zh (hL.low (D.mono O));have l:=zh (V.trans (D.mono O));have x0:=L.cell (i:=0) rfl;clear ab L D hL V;go_enter Tryz.func63,Tryz.ntmps63
 go_upto_region 1 with(fail)
 rw[<-ah.out];go_wp2_with fail
 go_at_call 97;refine J.out.mono ?_;rintro e1 w1⟨rfl,g⟩;have aE:=g.size;have F:=zh (Y.out.below g (zr _));have E:=zh (z.out.trans (g.mono z.out.size));have Q:=z.out.size;have ac:=zh (HL.out.low (g.mono (yT O Q)));have l:=zh (l.out.trans (g.mono (yT O Q)));have an:=F.out.lt;clear g x0 Y z HL J;have x0:=F.out.cell (i:=0) rfl;have X:=zh (za7 w1);go_wp2_with fail
 go_at_call 98;refine X.out.mono ?_;rintro e2 w2⟨rfl,-,d⟩;have ax:=d.size;have m:=zh (F.out.below d (zr _));have A:=zh (E.out.trans (d.mono E.out.size));have G:w.heap.size<=w1.heap.size:=E.out.size;have ai:=zh (ac.out.low (d.mono (yT O G)));have l:=zh (l.out.trans (d.mono (yT O G)));have ap:=m.out.lt;have ao:B<=w2.heap.size:=by omega
 clear d x0 X F ac E;have C:Hid (∀W,Below w2.heap.size w2 W->Calls Tryz.prog 96 #[.int .i64 0,.int .i64 0,.pointer (some ⟨w.heap.size,0,none⟩)] W (TxtE (zak x 1) W)):=zh (fun W hb=>za1 (w0:=w0) (i:=0) (lv:=0) (y:=x) (m.out.below hb (zr _)) (ai.out.low (hb.mono (by omega))) (l.out.trans (hb.mono (by omega))) (by have:=hb.size;omega) (by omega) rfl h0);obtain⟨T0,u⟩:∃T,zak x 1=T:=⟨_,rfl⟩;obtain⟨S0,q⟩:∃S,bstr T0=S:=⟨_,rfl⟩;have aq:S0.size<=1000000000000000:=by rw[<-q,zaC,<-u];exact ad _
 rw[u] at C;unfold TxtE at C;simp only[q] at C;have ag:=zh (show S0=bstr (zak x 1) from by rw[u,q]);clear u q;have aC:=zbf;obtain⟨x0,x1⟩:=yc2 m.out;obtain⟨KW,I⟩:∃K,bstr (kindWords.getD (N-1) [])=K:=⟨_,rfl⟩
 have av:KW.size<=100:=by
  rw[<-I,zaC];have:N=1∨N=2∨N=3∨N=4∨N=5∨N=6∨N=7∨N=8∨N=9∨N=10:=by omega
  rcases this with rfl|rfl|rfl|rfl|rfl|rfl|rfl|rfl|rfl|rfl <;> decide
 have Z:=zh I;have az:(0:Int)<=(N:Int):=by omega
 have ay:(N:Int)<11:=by omega
 have ar:¬(N:Int)<0:=by omega
 clear I;go_upto_region 18 with(fail)
 go_region_with (first|(go_at_call 50;refine(zgz _).mono ?_;rintro e3 w3⟨v3,rfl,P,d⟩;obtain⟨kb,am,ak,rfl,kc⟩:=zkq P aj ae;rw[Z.out] at kc;have f:Below w2.heap.size w2 w3:=((yR _ _).drew).trans d;have x1:=(m.out.below f (zr _)).cell (i:=1) rfl;clear P)|(refine(C.out _ f).mono ?_;rintro e4 w4⟨rfl,M⟩;have kc:=Below.keep M kc;have j:=f.trans (M.mono f.size);have x1:=(m.out.below j (zr _)).cell (i:=1) rfl))
 all_goals
  have aa:=zh j;clear j f M d x0 x1 kc;go_wp2_with fail
  refine yE (v:=.string (((KW++{ data:=#[91] })++S0)++{ data:=#[93] })) (by simp[results,Tryz.results63,go_sem]) rfl ⟨?_,by first|exact A.out.trans (aa.out.mono A.out.size)|exact(A.out.trans (aa.out.mono A.out.size)).drew⟩;rw[<-af.out,ag.out,<-Z.out];simp[zax,zbV]
theorem ziw{w0 w:World}{B:Nat}{op:Int}{x y:Ex}{m:Nat}(hm:zar op=m+1)(ay:m<5)(am:m=2)(O:zaO op≠[])(Z:(zaO op).length<=2)(h0:WrC w0 B x)(h1:WrC w0 B y)(ah:∀k,(zak x k).length<=1000000000000000)(aj:∀k,(zak y k).length<=1000000000000000){v:Value}(hL:EsL w B [x,y] v)(P:Below B w0 w)(hB:B<=w.heap.size)(lv:Nat)(aA:lv<=5) :
  Calls Tryz.prog 63 #[.agg #[.int .u8 op,.int .i64 0,.string { data:=#[] },v],.int .i64 lv] w (TxtE (zaN (2+1,zaN (zat x,zab x) (zby (2+1))++[32]++zaO op++[32]++zaN (zat y,zab y) (2+2)) (lv+1)) w):=by
 subst am;obtain⟨a,cap,rfl,ax,aC⟩:=hL.form;have az:=zmf Tryz.prog
 obtain⟨W0,Y,A,K⟩:∃W0,W0=w.alloc (.cells #[.int .u8 op,.int .i64 0,.string { data:=#[] },.slice a 2 cap] 29)/\Below w.heap.size w W0/\OwnV W0 w.heap.size 29 [.int .u8 op,.int .i64 0,.string { data:=#[] },.slice a 2 cap]:=⟨_,rfl,(yR _ _).alloc (zr _) _,OwnV.new _ _ _⟩;have z:=zh (zbw op W0);have hT:zdk op=zaO op:=by unfold zdk;rw[yP (by omega)]
 rw[hm,hT,show((2+1:Nat):Int)-1=2 from rfl] at z;rw[show zaN (zat x,zab x) (zby (2+1))=zak x (zby (2+1)) from by cases x;rfl,show zaN (zat y,zab y) (2+2)=zak y (2+2) from by cases y;rfl];have M:zby (2+1)=4:=by unfold zby;rfl
 rw[M];obtain⟨TX,J⟩:∃T,(zaN (2+1,zak x 4++[32]++zaO op++[32]++zak y (2+2)) (lv+1))=T:=⟨_,rfl⟩;rw[J];have ad:=zh J;clear J M;obtain⟨SG,g⟩:∃S,bstr (zaO op)=S:=⟨_,rfl⟩;have H:¬SG.toList=[]:=fun h=>O (str_nil.1 (by rw[g];exact h))
 have av:SG.toList.isEmpty=false:=by rw[List.isEmpty_eq_false_iff];exact H
 have ao:(SG.toList != [])=true:=by simpa using H
 have aq:(SG.toList==[])=false:=by simpa using H
 have aG:SG.size<=2:=by rw[<-g,zaC];exact Z
 rw[g] at z;have af:=zh g;clear g hT O Z;have an:=zh Y;have ab:=zh K;have E:=zh A;have HL:=zh (hL.low (A.mono hB));have F:=zh (P.trans (A.mono hB));have x0:=K.cell (i:=0) rfl;clear Y K A hL P;go_enter Tryz.func63,Tryz.ntmps63
 go_upto_region 1 with(fail)
 rw[<-an.out];go_wp2_with fail
 go_at_call 97;refine z.out.mono ?_;rintro e1 U⟨rfl,d⟩;have aD:=d.size;have G:=zh (ab.out.below d (zr _));have ae:=zh (E.out.trans (d.mono E.out.size));have aa:=E.out.size;have ac:=zh (HL.out.low (d.mono (yT hB aa)));have F:=zh (F.out.trans (d.mono (yT hB aa)));have ap:=G.out.lt;clear d x0 ab E HL z;have x0:=G.out.cell (i:=0) rfl;have Q:=G;have X:=ac;have R:=ae;have aE:=zbf;have au:B<=U.heap.size:=by omega
 clear G ac ae;have j:Hid (∀W,Below U.heap.size U W->Calls Tryz.prog 96 #[.int .i64 0,.int .i64 3,.pointer (some ⟨w.heap.size,0,none⟩)] W (TxtE (zak x 4) W)):=zh (fun W hb=>za1 (w0:=w0) (i:=0) (lv:=3) (y:=x) (Q.out.below hb (zr _)) (X.out.low (hb.mono (by omega))) (F.out.trans (hb.mono (by omega))) (by have:=hb.size;omega) (by omega) rfl h0);obtain⟨T0,D⟩:∃T,zak x 4=T:=⟨_,rfl⟩;obtain⟨S0,u⟩:∃S,bstr T0=S:=⟨_,rfl⟩;have ar:S0.size<=1000000000000000:=by rw[<-u,zaC,<-D];exact ah _
 rw[D] at j;unfold TxtE at j;simp only[u] at j;have V:=zh (show S0=bstr (zak x 4) from by rw[D,u]);clear D u;have f:Hid (∀W,Below U.heap.size U W->Calls Tryz.prog 96 #[.int .i64 1,.int .i64 3,.pointer (some ⟨w.heap.size,0,none⟩)] W (TxtE (zak y (2+2)) W)):=zh (fun W hb=>za1 (w0:=w0) (i:=1) (lv:=3) (y:=y) (Q.out.below hb (zr _)) (X.out.low (hb.mono (by omega))) (F.out.trans (hb.mono (by omega))) (by have:=hb.size;omega) (by omega) rfl h1);obtain⟨T1,q⟩:∃T,zak y (2+2)=T:=⟨_,rfl⟩;obtain⟨S1,C⟩:∃S,bstr T1=S:=⟨_,rfl⟩;have aw:S1.size<=1000000000000000:=by rw[<-C,zaC,<-q];exact aj _
 rw[q] at f;unfold TxtE at f;simp only[C] at f;have N:=zh (show S1=bstr (zak y (2+2)) from by rw[q,C]);clear q C;go_wp2_with fail
 refine(j.out _ (yR _ _)).mono ?_;rintro e3 w3⟨rfl,l⟩;have I:=zh l;clear l j;go_wp2_with fail
 refine(f.out _ I.out).mono ?_;rintro e4 w4⟨rfl,l⟩;have ak:=zh (I.out.trans (l.mono I.out.size));clear l f;have ag:=R.out.trans (ak.out.mono R.out.size);have L:=zh ag;clear ag x0;by_cases aF:2<lv
 ·have ai:2<(lv:Int):=by omega
  go_wp2_with fail
  refine yE (v:=.string (({ data:=#[40] }++((((S0++{ data:=#[32] })++SG)++{ data:=#[32] })++S1))++{ data:=#[41] })) (by simp[results,Tryz.results63,go_sem]) rfl ⟨?_,L.out⟩;rw[<-ad.out,V.out,N.out,<-af.out];unfold zaN;rw[yP (by show 2+1<lv+1;omega)];simp[zax,zbV]
 ·have ai:¬2<(lv:Int):=by omega
  go_wp2_with fail
  refine yE (v:=.string ((((S0++{ data:=#[32] })++SG)++{ data:=#[32] })++S1)) (by simp[results,Tryz.results63,go_sem]) rfl ⟨?_,L.out⟩;rw[<-ad.out,V.out,N.out,<-af.out];unfold zaN;rw[yN (by show ¬2+1<lv+1;omega)];simp[zax,zbV]
theorem zix{w0 w:World}{B:Nat}{op:Int}{x y:Ex}{m:Nat}(hm:zar op=m+1)(aA:m<5)(aG:m≠2)(P:zaO op≠[])(aa:(zaO op).length<=2)(h0:WrC w0 B x)(h1:WrC w0 B y)(ai:∀k,(zak x k).length<=1000000000000000)(ak:∀k,(zak y k).length<=1000000000000000){v:Value}(hL:EsL w B [x,y] v)(Q:Below B w0 w)(hB:B<=w.heap.size)(lv:Nat)(aD:lv<=5) :
  Calls Tryz.prog 63 #[.agg #[.int .u8 op,.int .i64 0,.string { data:=#[] },v],.int .i64 lv] w (TxtE (zaN (m+1,zaN (zat x,zab x) (zby (m+1))++[32]++zaO op++[32]++zaN (zat y,zab y) (m+2)) (lv+1)) w):=by
 obtain⟨a,cap,rfl,az,aF⟩:=hL.form;have aC:=zmf Tryz.prog
 obtain⟨W0,Z,A,K⟩:∃W0,W0=w.alloc (.cells #[.int .u8 op,.int .i64 0,.string { data:=#[] },.slice a 2 cap] 29)/\Below w.heap.size w W0/\OwnV W0 w.heap.size 29 [.int .u8 op,.int .i64 0,.string { data:=#[] },.slice a 2 cap]:=⟨_,rfl,(yR _ _).alloc (zr _) _,OwnV.new _ _ _⟩;have z:=zh (zbw op W0);have hT:zdk op=zaO op:=by unfold zdk;rw[yP (by omega)]
 rw[hm,hT,show((m+1:Nat):Int)-1=(m:Int) from by omega] at z;rw[show zaN (zat x,zab x) (zby (m+1))=zak x (zby (m+1)) from by cases x;rfl,show zaN (zat y,zab y) (m+2)=zak y (m+2) from by cases y;rfl];have N:zby (m+1)=(m+1):=by unfold zby;rw[yN (by omega)]
 rw[N];obtain⟨TX,J⟩:∃T,(zaN (m+1,zak x (m+1)++[32]++zaO op++[32]++zak y (m+2)) (lv+1))=T:=⟨_,rfl⟩;rw[J];have ae:=zh J;clear J N;obtain⟨SG,g⟩:∃S,bstr (zaO op)=S:=⟨_,rfl⟩;have H:¬SG.toList=[]:=fun h=>P (str_nil.1 (by rw[g];exact h))
 have av:SG.toList.isEmpty=false:=by rw[List.isEmpty_eq_false_iff];exact H
 have ao:(SG.toList != [])=true:=by simpa using H
 have aq:(SG.toList==[])=false:=by simpa using H
 have aK:SG.size<=2:=by rw[<-g,zaC];exact aa
 rw[g] at z;have ag:=zh g;clear g hT P aa;have an:=zh Z;have ac:=zh K;have E:=zh A;have HL:=zh (hL.low (A.mono hB));have F:=zh (Q.trans (A.mono hB));have x0:=K.cell (i:=0) rfl;clear Z K A hL Q;go_enter Tryz.func63,Tryz.ntmps63
 go_upto_region 1 with(fail)
 rw[<-an.out];go_wp2_with fail
 go_at_call 97;refine z.out.mono ?_;rintro e1 V⟨rfl,d⟩;have aH:=d.size;have G:=zh (ac.out.below d (zr _));have af:=zh (E.out.trans (d.mono E.out.size));have ab:=E.out.size;have ad:=zh (HL.out.low (d.mono (yT hB ab)));have F:=zh (F.out.trans (d.mono (yT hB ab)));have ap:=G.out.lt;clear d x0 ac E HL z;have x0:=G.out.cell (i:=0) rfl;have R:=G;have Y:=ad;have U:=af;have aI:=zbf;have au:B<=V.heap.size:=by omega
 have aw:(m:Int)<5:=by omega
 have aE:IntKind.i64.wrap ((m:Int)+1)=(m:Int)+1:=IntWalk.i64_in _ (by omega);clear G ad af;have j:Hid (∀W,Below V.heap.size V W->Calls Tryz.prog 96 #[.int .i64 0,.int .i64 (m:Int),.pointer (some ⟨w.heap.size,0,none⟩)] W (TxtE (zak x (m+1)) W)):=zh (fun W hb=>za1 (w0:=w0) (i:=0) (lv:=m) (y:=x) (R.out.below hb (zr _)) (Y.out.low (hb.mono (by omega))) (F.out.trans (hb.mono (by omega))) (by have:=hb.size;omega) (by omega) rfl h0);obtain⟨T0,D⟩:∃T,zak x (m+1)=T:=⟨_,rfl⟩;obtain⟨S0,u⟩:∃S,bstr T0=S:=⟨_,rfl⟩;have ar:S0.size<=1000000000000000:=by rw[<-u,zaC,<-D];exact ai _
 rw[D] at j;unfold TxtE at j;simp only[u] at j;have X:=zh (show S0=bstr (zak x (m+1)) from by rw[D,u]);clear D u;have f:Hid (∀W,Below V.heap.size V W->Calls Tryz.prog 96 #[.int .i64 1,.int .i64 ((m:Int)+1),.pointer (some ⟨w.heap.size,0,none⟩)] W (TxtE (zak y (m+2)) W)):=zh (fun W hb=>za1 (w0:=w0) (i:=1) (lv:=(m+1)) (y:=y) (R.out.below hb (zr _)) (Y.out.low (hb.mono (by omega))) (F.out.trans (hb.mono (by omega))) (by have:=hb.size;omega) (by omega) rfl h1);obtain⟨T1,q⟩:∃T,zak y (m+2)=T:=⟨_,rfl⟩;obtain⟨S1,C⟩:∃S,bstr T1=S:=⟨_,rfl⟩;have ay:S1.size<=1000000000000000:=by rw[<-C,zaC,<-q];exact ak _
 rw[q] at f;unfold TxtE at f;simp only[C] at f;have O:=zh (show S1=bstr (zak y (m+2)) from by rw[q,C]);clear q C;have M:¬(m:Int)=2:=by omega
 have ax:((m:Int)==2)=false:=by simpa using M
 go_wp2_with fail
 refine(j.out _ (yR _ _)).mono ?_;rintro e3 w3⟨rfl,l⟩;have I:=zh l;clear l j;go_wp2_with fail
 refine(f.out _ I.out).mono ?_;rintro e4 w4⟨rfl,l⟩;have am:=zh (I.out.trans (l.mono I.out.size));clear l f;have ah:=U.out.trans (am.out.mono U.out.size);have L:=zh ah;clear ah x0;by_cases aJ:m<lv
 ·have aj:(m:Int)<(lv:Int):=by omega
  go_wp2_with fail
  refine yE (v:=.string (({ data:=#[40] }++((((S0++{ data:=#[32] })++SG)++{ data:=#[32] })++S1))++{ data:=#[41] })) (by simp[results,Tryz.results63,go_sem]) rfl ⟨?_,L.out⟩;rw[<-ae.out,X.out,O.out,<-ag.out];unfold zaN;rw[yP (by show m+1<lv+1;omega)];simp[zax,zbV]
 ·have aj:¬(m:Int)<(lv:Int):=by omega
  go_wp2_with fail
  refine yE (v:=.string ((((S0++{ data:=#[32] })++SG)++{ data:=#[32] })++S1)) (by simp[results,Tryz.results63,go_sem]) rfl ⟨?_,L.out⟩;rw[<-ae.out,X.out,O.out,<-ag.out];unfold zaN;rw[yN (by show ¬m+1<lv+1;omega)];simp[zax,zbV]
theorem zcL(p:Nat × List UInt8)(k:Nat):(zaN p k).length<=p.2.length+2:=by
 unfold zaN;split
 ·simp only[yA,yB,yL];omega
 ·omega
theorem zkr(x:Ex)(k:Nat):(zak x k).length<=(zab x).length+2:=by
 cases x;exact zcL _ k
theorem zd7{n:Int}(d:1<=n)(f:n<=10):(kindWords.getD (n-1).toNat []).length<=6:=by
 have:n=1∨n=2∨n=3∨n=4∨n=5∨n=6∨n=7∨n=8∨n=9∨n=10:=by omega
 rcases this with rfl|rfl|rfl|rfl|rfl|rfl|rfl|rfl|rfl|rfl <;> decide
theorem zeF{op:Int}(d:10<=op)(f:op<=22):(zaO op).length<=2/\zaO op≠[]:=by
 have:op=10∨op=11∨op=12∨op=13∨op=14∨op=15∨op=16∨op=17∨op=18∨op=19∨op=20∨op=21∨op=22:=by omega
 rcases this with rfl|rfl|rfl|rfl|rfl|rfl|rfl|rfl|rfl|rfl|rfl|rfl|rfl <;> decide
theorem zjH{n:Int}(f:0<=n)(d:n<=9223372036854775807):(Lib.decDigits n.toNat).length<=21:=by
 have:=Lib.itoa_length_le n (by omega) d;unfold Lib.itoa at this;rwa[yN (by omega)] at this
theorem zcS{s:List UInt8}(h:za4 s=true):s.length<=24:=by
 cases s with
 | nil=>exact Nat.zero_le _
 | cons b r =>
  simp only[za4,yC,yQ] at h;exact h.1.1
theorem zlG:∀{d:Nat} {x:Ex},Shp d x->(zab x).length+24<=24*2 ^ d:=by
 intro d x h;have e:∀k,2 ^ (k+1)=2*2 ^ k:=fun k=>by rw[Nat.pow_succ];omega
 have p:∀k,1<=2 ^ k:=fun k=>Nat.one_le_two_pow
 induction h with
 | @num d n h0 h1=>rw[zcq,e];have:=zjH h0 h1;have:=p d;omega
 | @var d s h=>rw[zcr,e];have:=zcS (zbG h).1;have:=p d;omega
 | @comp d n a h0 h1 _ ih=>rw[zdu,e];simp only[yA,yB,yL];have:=zd7 h0 h1;have:=p d;omega
 | @leaf d op h =>
  have:=p d;rcases h with rfl|rfl
  ·rw[zep,e];simp only[yB,yL];omega
  ·rw[zeq,e];simp only[yB,yL];omega
 | @call d op a ho _ ih =>
  have:=p d;rcases ho with rfl|rfl
  ·rw[zdv,e];simp only[yA,yB,yL];omega
  ·rw[zcN,e];simp only[yA,yB,yL];omega
 | @pre d op a ho _ ih =>
  have:=p d;have:=zcL (zat a,zab a) 6;simp only at this;rcases ho with rfl|rfl
  ·rw[zcs,e];simp only[yA,yB,yL];omega
  ·rw[zdm,e];simp only[yA,yB,yL];omega
 | @bin d op a b h0 h1 _ _ iha ihb =>
  rw[zb0 h0 h1,e];simp only[yA,yB,yL];have:=zcL (zat a,zab a) (zby (zar op));have:=zcL (zat b,zab b) (zar op+1);have:=(zeF h0 h1).1
  simp only at *
  omega
 | @two d op a b ho _ _ iha ihb =>
  have:=p d;rcases ho with rfl|rfl
  ·rw[zdT,e];simp only[yA,yB,yL];omega
  ·rw[zdU,e];simp only[yA,yB,yL];omega
theorem zaE{d:Nat}{x:Ex}(h:Shp d x)(f:d<=40)(k:Nat):(zak x k).length<=1000000000000000:=by
 have i:=zlG h;have g:=zkr x k;have j:2 ^ d<=2 ^ 40:=Nat.pow_le_pow_right (by decide) f;have l:(2:Nat) ^ 40=1099511627776:=by decide
 omega
theorem zaL(x:Ex):zak x 1=zab x:=by
 cases x with
 | mk op n name args =>
  show zaN (zar op,_) 1=_;unfold zaN;have:=zhN (.mk op n name args);rw[yN (by show ¬zar op<1;have h:zat (.mk op n name args)=zar op:=rfl;omega)]
theorem zbC{op n:Int}{name:List UInt8}{args:List Ex}(h:zar op=6){k:Nat}(d:k<=6):zak (.mk op n name args) k=zab (.mk op n name args):=by
 show zaN (zar op,_) k=_;unfold zaN;rw[yN (by show ¬zar op<k;omega)]
theorem zcm{w0:World}{B:Nat}(I:Glob w0)(H:glB<=B):∀{d:Nat} {x:Ex},Shp d x->d<=40->WrC w0 B x:=by
 intro d x h
 induction h with
 | @num d n h0 h1 =>
  intro y u z j l v w lv e f i q g;cases e;rw[zbC rfl (by omega),zcq]
  exact zja h0 h1 (I.below f H) q f i lv g
 | @var d s h =>
  intro y u z j l v w lv e f i q g;cases e;rw[zbC rfl (by omega),zcr]
  exact zi9 q f i lv g
 | @comp d n a h0 h1 hs ih =>
  intro y u z j l v w lv e f i q g;cases e;rw[zbC rfl (by omega),zdu,<-zaL];obtain⟨N,rfl⟩:∃N:Nat,n=(N:Int):=⟨n.toNat,by omega⟩;rw[show((N:Int)-1).toNat=N-1 from by omega]
  exact ziv (by omega) (by omega) (ih (by omega)) (zaE hs (by omega)) q f i lv g
 | @leaf d op h =>
  intro y u z j l v w lv e f i q g;cases e;rcases h with rfl|rfl
  ·rw[zbC rfl (by omega),zep];exact zis q f i lv g
  ·rw[zbC rfl (by omega),zeq];exact zit q f i lv g
 | @call d op a ho hs ih =>
  intro y u z j l v w lv e f i q g;cases e;rcases ho with rfl|rfl
  ·rw[zbC rfl (by omega),zdv,<-zaL];exact ziu (ih (by omega)) (zaE hs (by omega)) q f i lv g
  ·rw[zbC rfl (by omega),zcN,<-zaL];exact zjd (ih (by omega)) (zaE hs (by omega)) q f i lv g
 | @pre d op a ho hs ih =>
  intro y u z j l v w lv e f i q g;cases e;have hp:zaN (zat a,zab a) 6=zak a 6:=by cases a;rfl
  rcases ho with rfl|rfl
  ·rw[zbC rfl (by omega),zcs,hp];exact zjb (ih (by omega)) (zaE hs (by omega)) q f i lv g
  ·rw[zbC rfl (by omega),zdm,hp];exact zjc (ih (by omega)) (zaE hs (by omega)) q f i lv g
 | @bin d op a b h0 h1 ha hb iha ihb =>
  intro y u z j l v w lv e f i q g;cases e;obtain⟨-,-,G,F⟩:=zdE h0 h1;obtain⟨m,E⟩:∃m,zar op=m+1:=⟨zar op-1,by omega⟩;obtain⟨C,D⟩:=zeF h0 h1
  have ht:zak (.mk op 0 [] [a,b]) (lv+1)=zaN (m+1,zaN (zat a,zab a) (zby (m+1))++[32]++zaO op++[32]++zaN (zat b,zab b) (m+2)) (lv+1):=by
   show zaN (zar op,zab (.mk op 0 [] [a,b])) (lv+1)=_;rw[zb0 h0 h1,E]
  rw[ht];by_cases A:m=2
  ·subst A;exact ziw (m:=2) E (by omega) rfl D C (iha (by omega)) (ihb (by omega)) (zaE ha (by omega)) (zaE hb (by omega)) q f i lv g
  ·exact zix E (by omega) A D C (iha (by omega)) (ihb (by omega)) (zaE ha (by omega)) (zaE hb (by omega)) q f i lv g
 | @two d op a b ho ha hb iha ihb =>
  intro y u z j l v w lv e f i q g;cases e;rcases ho with rfl|rfl
  ·rw[zbC rfl (by omega),zdT,<-zaL a,<-zaL b];exact zje (iha (by omega)) (ihb (by omega)) (zaE ha (by omega)) (zaE hb (by omega)) q f i lv g
  ·rw[zbC rfl (by omega),zdU,<-zaL a,<-zaL b];exact zjf (iha (by omega)) (ihb (by omega)) (zaE ha (by omega)) (zaE hb (by omega)) q f i lv g
theorem EsL.mono{w:World}{B B':Nat}{xs:List Ex}{v:Value}(h:EsL w B xs v)(d:B<=B'):EsL w B' xs v:=by
 obtain⟨cs,i,f,j⟩:=h;exact⟨cs,i,f.imp id fun k g e=>Nat.lt_of_lt_of_le (k g e) d,j.weak fun g _ hg=>Nat.lt_of_lt_of_le hg d⟩
def zbK (x : Ex) : List UInt8 × Int := if zbd 40 x = true then zdN (zab x) else ([], 2)
def zks (r : List UInt8 × Int) (w : World) (e : Ending) (w' : World) : Prop := e = .returned (.tuple #[.string (bstr r.1), .int .i64 r.2]) /\ Below w.heap.size w w'
theorem zdO{w:World}{B:Nat}{op n:Int}{name:List UInt8}{args:List Ex}{v:Value}(Q:Glob w)(y:okE (.mk op n name args))(L:EsL w B args v)(Y:B<=w.heap.size) :
  Calls Tryz.prog 33 #[.agg #[.int .u8 op,.int .i64 n,.string (bstr name),v]] w (zks (zbK (.mk op n name args)) w):=by
 obtain⟨a,cap,rfl,X,Z⟩:=L.form;have z:=L.mono Y;obtain⟨F,K,l,C⟩:∃F,F=w.alloc (.cells #[.int .u8 op,.int .i64 n,.string (bstr name),.slice a args.length cap] 29)/\Below w.heap.size w F/\OwnV F w.heap.size 29 [.int .u8 op,.int .i64 n,.string (bstr name),.slice a args.length cap]:=⟨_,rfl,(yR _ _).alloc (zr _) _,OwnV.new _ _ _⟩;have I:=zh (zhh 40 (by omega) op n name args (.slice a args.length cap) F w.heap.size y (z.low l) l.size)
 have D:Hid (zbd 40 (.mk op n name args)=true->∀W,Below w.heap.size w W->Calls Tryz.prog 63 #[.agg #[.int .u8 op,.int .i64 n,.string (bstr name),.slice a args.length cap],.int .i64 0] W (TxtE (zab (.mk op n name args)) W)):=zh (fun hf W hb=>by
  have:=zcm Q Q.size (zfB 40 _ hf y) (by omega) op n name args (.slice a args.length cap) W 0 rfl (hb.mono (zr _)) hb.size (z.low hb) (by omega)
  rwa[zaL] at this)
 unfold zbK
 generalize u:zab (.mk op n name args)=T at *
 generalize zbd 40 (.mk op n name args)=q at *
 have J:=zh K;have j:=zh l;have O:=zh C;obtain⟨P,R,N,M⟩:=yc4 C;clear K l C Q y L z u
 cases q with
 | false =>
  rw[yN (by decide)];go_enter Tryz.func33,Tryz.ntmps33
  go_upto_region 1 with(fail)
  rw[<-J.out];go_wp2_with fail
  go_at_call 62;refine I.out.mono ?_;rintro e1 U⟨rfl,f⟩;have i:=zh (j.out.trans (f.mono j.out.size));clear f;go_wp2_with fail
  exact yE (v:=.tuple #[.string { data:=#[] },.int .i64 2]) (by simp[results,Tryz.results33,go_sem]) rfl ⟨rfl,i.out⟩
 | true =>
  rw[yP rfl];have m:=zh (D.out rfl);clear D;go_enter Tryz.func33,Tryz.ntmps33
  go_upto_region 1 with(fail)
  rw[<-J.out];go_wp2_with fail
  go_at_call 62;refine I.out.mono ?_;rintro e1 U⟨rfl,f⟩;have i:=zh (j.out.trans (f.mono j.out.size));have E:=O.out.below f (zr _);clear f P R N M;obtain⟨P,R,N,M⟩:=yc4 E;have S:=zh (m.out U i.out);clear E m;go_wp2_with fail
  go_at_call 63;refine S.out.mono ?_;rintro e2 w2⟨rfl,H⟩;have G:=zh (i.out.trans (H.mono i.out.size));have g:=zh (zhe (bstr T) w2);clear H S P R N M;have d:(zdN T)=(if 16384<T.length then([],3) else(T,0)):=rfl;rw[zaC] at g;by_cases u:16384<T.length
  ·rw[yP u] at d;rw[yP u,yP u] at g;have A:=zh d;clear d;go_wp2_with fail
   go_at_call 55;refine g.out.mono ?_;rintro V w3⟨rfl,rfl⟩;go_wp2_with fail
   exact yE (v:=.tuple #[.string { data:=#[] },.int .i64 3]) (by simp[results,Tryz.results33,go_sem]) rfl ⟨by rw[A.out];rfl,G.out⟩
  ·rw[yN u] at d;rw[yN u,yN u] at g;have A:=zh d;clear d;go_wp2_with fail
   go_at_call 55;refine g.out.mono ?_;rintro V w3⟨rfl,rfl⟩;go_wp2_with fail
   exact yE (v:=.tuple #[.string (bstr T),.int .i64 0]) (by simp[results,Tryz.results33,go_sem]) rfl ⟨by rw[A.out],G.out⟩
end Go.Proofs.YtoaojdobjinhfaaGreatDoor
