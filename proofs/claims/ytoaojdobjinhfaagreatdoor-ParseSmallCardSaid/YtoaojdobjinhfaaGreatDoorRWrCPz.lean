/- The reference's printer: write, walked case by case. Printed by gen_rwrite.py. -/
import Derived.Test.YtoaojdobjinhfaaGreatDoorRExXPz
set_option linter.unusedSimpArgs false
set_option linter.unusedVariables false
set_option maxRecDepth 100000
set_option maxHeartbeats 1000000
namespace Go.Proofs.YtoaojdobjinhfaaGreatDoor
open Go.RowKit

theorem rkinds_cell{w:World}{v:Value}(h:Strs w kindWords v){N:Nat}(j:1<=N)(i:N<=10):∃b d cap,v=.slice (some ⟨b,d,none⟩) 10 cap/\w.cell? ⟨b,d+(N-1),none⟩=some (.string (bstr (kindWords.getD (N-1) []))):=by
 obtain⟨a,cap,rfl,-,-,-,g⟩:=h;obtain⟨b,d,rfl,f⟩:=g (by decide);refine⟨b,d,cap,rfl,?_⟩;rw[f (N-1) (by show N-1<10*1;omega),List.getElem?_map];have:N=1∨N=2∨N=3∨N=4∨N=5∨N=6∨N=7∨N=8∨N=9∨N=10:=by omega
 rcases this with rfl|rfl|rfl|rfl|rfl|rfl|rfl|rfl|rfl|rfl <;> rfl
theorem rw_tick{w:World}{B:Nat}  {v:Value}(y:EsL w B [] v)(O:B<=w.heap.size) :
  Calls Tryz.prog 77 #[.agg #[.int .u8 4,.int .i64 0,.string (bstr []),v]] w (TxtE ([116,105,99,107]) w):=by
 obtain⟨a,cap,rfl,H,I⟩:=y.form;obtain⟨u,q,m,j⟩:∃u,u=w.alloc (.cells #[.int .u8 4,.int .i64 0,.string (bstr []),.slice a 0 cap] 29)/\Below w.heap.size w u/\OwnV u w.heap.size 29 [.int .u8 4,.int .i64 0,.string (bstr []),.slice a 0 cap]:=⟨_,rfl,(yR _ _).alloc (zr _) _,OwnV.new _ _ _⟩;have d:Hid (∀W,Calls Tryz.prog 120 #[.agg #[.int .u8 4,.int .i64 0,.string (bstr []),.slice a 0 cap]] W _):=zh (fun W=>strength_any (op:=4) (n:=0) (nm:=(bstr [])) (v:=.slice a 0 cap) (by decide) (by decide) ⟨_,_,_,rfl⟩ W);rw[show zar 4=6 by decide] at d;obtain⟨G,f⟩:∃X:List UInt8,[116,105,99,107]=X:=⟨_,rfl⟩;rw[f];have z:=zh f;clear f;have D:=zh q;have A:=zh j;have l:=zh m;have L:=zh y;obtain⟨F,N,K,J⟩:=yc4 j;clear q j m y;go_enter Tryz.func77,Tryz.ntmps77
 go_upto_region 1 with(fail)
 rw[<-D.out];go_wp2_with fail
 go_at_call 120;refine(d.out _).mono ?_;rintro P Q⟨rfl,g⟩;have C:=zh (l.out.trans (g.mono l.out.size));have E:=zh (A.out.below g (zr _));clear g F N K J;have F:=E.out.cell (i:=0) rfl;clear L d;have M:Hid (bstr G={ data:=#[116,105,99,107] }):=zh (by rw[<-z.out];rfl);go_wp2_with fail
 exact yE (v:=.string ({ data:=#[116,105,99,107] })) (by simp[results,Tryz.results77,go_sem]) rfl ⟨by rw[M.out],C.out⟩
theorem rw_self{w:World}{B:Nat}  {v:Value}(y:EsL w B [] v)(O:B<=w.heap.size) :
  Calls Tryz.prog 77 #[.agg #[.int .u8 5,.int .i64 0,.string (bstr []),v]] w (TxtE ([115,101,108,102]) w):=by
 obtain⟨a,cap,rfl,H,I⟩:=y.form;obtain⟨u,q,m,j⟩:∃u,u=w.alloc (.cells #[.int .u8 5,.int .i64 0,.string (bstr []),.slice a 0 cap] 29)/\Below w.heap.size w u/\OwnV u w.heap.size 29 [.int .u8 5,.int .i64 0,.string (bstr []),.slice a 0 cap]:=⟨_,rfl,(yR _ _).alloc (zr _) _,OwnV.new _ _ _⟩;have d:Hid (∀W,Calls Tryz.prog 120 #[.agg #[.int .u8 5,.int .i64 0,.string (bstr []),.slice a 0 cap]] W _):=zh (fun W=>strength_any (op:=5) (n:=0) (nm:=(bstr [])) (v:=.slice a 0 cap) (by decide) (by decide) ⟨_,_,_,rfl⟩ W);rw[show zar 5=6 by decide] at d;obtain⟨G,f⟩:∃X:List UInt8,[115,101,108,102]=X:=⟨_,rfl⟩;rw[f];have z:=zh f;clear f;have D:=zh q;have A:=zh j;have l:=zh m;have L:=zh y;obtain⟨F,N,K,J⟩:=yc4 j;clear q j m y;go_enter Tryz.func77,Tryz.ntmps77
 go_upto_region 1 with(fail)
 rw[<-D.out];go_wp2_with fail
 go_at_call 120;refine(d.out _).mono ?_;rintro P Q⟨rfl,g⟩;have C:=zh (l.out.trans (g.mono l.out.size));have E:=zh (A.out.below g (zr _));clear g F N K J;have F:=E.out.cell (i:=0) rfl;clear L d;have M:Hid (bstr G={ data:=#[115,101,108,102] }):=zh (by rw[<-z.out];rfl);go_wp2_with fail
 exact yE (v:=.string ({ data:=#[115,101,108,102] })) (by simp[results,Tryz.results77,go_sem]) rfl ⟨by rw[M.out],C.out⟩
theorem rw_var{w:World}{B:Nat}{name:List UInt8}{v:Value}(y:EsL w B [] v)(K:B<=w.heap.size) :
  Calls Tryz.prog 77 #[.agg #[.int .u8 2,.int .i64 0,.string (bstr name),v]] w (TxtE (name) w):=by
 obtain⟨a,cap,rfl,F,G⟩:=y.form;obtain⟨u,m,l,g⟩:∃u,u=w.alloc (.cells #[.int .u8 2,.int .i64 0,.string (bstr name),.slice a 0 cap] 29)/\Below w.heap.size w u/\OwnV u w.heap.size 29 [.int .u8 2,.int .i64 0,.string (bstr name),.slice a 0 cap]:=⟨_,rfl,(yR _ _).alloc (zr _) _,OwnV.new _ _ _⟩;have d:Hid (∀W,Calls Tryz.prog 120 #[.agg #[.int .u8 2,.int .i64 0,.string (bstr name),.slice a 0 cap]] W _):=zh (fun W=>strength_any (op:=2) (n:=0) (nm:=(bstr name)) (v:=.slice a 0 cap) (by decide) (by decide) ⟨_,_,_,rfl⟩ W);rw[show zar 2=6 by decide] at d;have C:=zh m;have z:=zh g;have j:=zh l;have I:=zh y;obtain⟨E,J,D,H⟩:=yc4 g;clear m g l y;go_enter Tryz.func77,Tryz.ntmps77
 go_upto_region 1 with(fail)
 rw[<-C.out];go_wp2_with fail
 go_at_call 120;refine(d.out _).mono ?_;rintro L M⟨rfl,f⟩;have A:=zh (j.out.trans (f.mono j.out.size));have q:=zh (z.out.below f (zr _));clear f E J D H;have E:=q.out.cell (i:=0) rfl;have D:=q.out.cell (i:=2) rfl;clear I d;go_wp2_with fail
 exact yE (v:=.string (bstr name)) (by simp[results,Tryz.results77,go_sem]) rfl ⟨rfl,A.out⟩
theorem rw_num{w:World}{B:Nat}{N:Nat}(J:N<=9223372036854775807){v:Value}(z:EsL w B [] v)(T:B<=w.heap.size) :
  Calls Tryz.prog 77 #[.agg #[.int .u8 1,.int .i64 (N:Nat),.string (bstr []),v]] w (TxtE (Lib.decDigits N) w):=by
 obtain⟨a,cap,rfl,L,M⟩:=z.form;obtain⟨y,u,l,i⟩:∃y,y=w.alloc (.cells #[.int .u8 1,.int .i64 (N:Nat),.string (bstr []),.slice a 0 cap] 29)/\Below w.heap.size w y/\OwnV y w.heap.size 29 [.int .u8 1,.int .i64 (N:Nat),.string (bstr []),.slice a 0 cap]:=⟨_,rfl,(yR _ _).alloc (zr _) _,OwnV.new _ _ _⟩;have d:Hid (∀W,Calls Tryz.prog 120 #[.agg #[.int .u8 1,.int .i64 (N:Nat),.string (bstr []),.slice a 0 cap]] W _):=zh (fun W=>strength_any (op:=1) (n:=(N:Nat)) (nm:=(bstr [])) (v:=.slice a 0 cap) (by decide) (by decide) ⟨_,_,_,rfl⟩ W);rw[show zar 1=6 by decide] at d;obtain⟨K,f⟩:∃X:List UInt8,Lib.decDigits N=X:=⟨_,rfl⟩;rw[f];have A:=zh f;clear f;have F:=zh u;have E:=zh i;have j:=zh l;have Q:=zh z;obtain⟨G,H,P,O⟩:=yc4 i;clear u i l z;go_enter Tryz.func77,Tryz.ntmps77
 go_upto_region 1 with(fail)
 rw[<-F.out];go_wp2_with fail
 go_at_call 120;refine(d.out _).mono ?_;rintro U R⟨rfl,g⟩;have q:=zh (j.out.trans (g.mono j.out.size));have I:=zh (E.out.below g (zr _));clear g G H P O;have D:=zh (decimal_any N R J);unfold TxtE at D;rw[A.out] at D;obtain⟨G,H⟩:=yc2 I.out;clear Q d J;go_wp2_with fail
 go_at_call 122;refine D.out.mono ?_;rintro S w2⟨rfl,m⟩;have C:=zh (q.out.trans (m.mono q.out.size));clear m G H;go_wp2_with fail
 exact yE (v:=.string (bstr K)) (by simp[results,Tryz.results77,go_sem]) rfl ⟨rfl,C.out⟩
theorem rw_rand{w:World}{B:Nat}{y:Ex}(h0:WrR B y)(I:(zab y).length<=1000000000000000){v:Value}(N:EsL w B [y] v)(hB:B<=w.heap.size) :
  Calls Tryz.prog 77 #[.agg #[.int .u8 6,.int .i64 0,.string (bstr []),v]] w (TxtE ([114,97,110,100]++[40]++zab y++[41]) w):=by
 obtain⟨a,cap,rfl,ae,af⟩:=N.form;obtain⟨K,G,D,u⟩:∃K,K=w.alloc (.cells #[.int .u8 6,.int .i64 0,.string (bstr []),.slice a 1 cap] 29)/\Below w.heap.size w K/\OwnV K w.heap.size 29 [.int .u8 6,.int .i64 0,.string (bstr []),.slice a 1 cap]:=⟨_,rfl,(yR _ _).alloc (zr _) _,OwnV.new _ _ _⟩;have g:Hid (∀W,Calls Tryz.prog 120 #[.agg #[.int .u8 6,.int .i64 0,.string (bstr []),.slice a 1 cap]] W _):=zh (fun W=>strength_any (op:=6) (n:=0) (nm:=(bstr [])) (v:=.slice a 1 cap) (by decide) (by decide) ⟨_,_,_,rfl⟩ W);rw[show zar 6=6 by decide] at g;obtain⟨TX,j⟩:∃X:List UInt8,[114,97,110,100]++[40]++zab y++[41]=X:=⟨_,rfl⟩;rw[j];have P:=zh j;clear j;have V:=zh G;have U:=zh u;have C:=zh D;have HL:=zh N;obtain⟨Y,x1,x2,O⟩:=yc4 u;clear G u D N;go_enter Tryz.func77,Tryz.ntmps77
 go_upto_region 1 with(fail)
 rw[<-V.out];go_wp2_with fail
 go_at_call 120;refine(g.out _).mono ?_;rintro e1 T⟨rfl,q⟩;have f:=zh (C.out.trans (q.mono C.out.size));have H:=zh (U.out.below q (zr _));clear q Y x1 x2 O;have F:B<=T.heap.size:=yT hB f.out.size;have A:=HL.out.low (f.out.mono hB);obtain⟨b,ac,l,Z,nm0,m,M,aa,rfl,ag,ad,L,c0,c1,c2,c3,z⟩:=A.at (k:=0) (by simp);cases L;obtain⟨J,d⟩:∃S,bstr (zab (.mk l Z nm0 m))=S:=⟨_,rfl⟩;have ab:J.size<=1000000000000010:=by rw[<-d,zaC];exact yT I (by decide)
 have R:Hid (∀W,Below T.heap.size T W->Calls Tryz.prog 77 #[.agg #[.int .u8 l,.int .i64 Z,.string (bstr nm0),.slice M m.length aa]] W fun e w'=>e=.returned (.string J)/\Below W.heap.size W w'):=zh (fun W hb=>by rw[<-d];exact h0 l Z nm0 m _ W rfl (yT F hb.size) (z.low (hb.mono F)));simp only[Nat.zero_mul,Nat.add_zero,Nat.one_mul] at c0 c1 c2 c3
 have HT:Hid (bstr TX=({ data:=#[114,97,110,100,40] }++J)++{ data:=#[41] }):=zh (by
  rw[<-P.out,<-d,show({ data:=#[114,97,110,100,40] }:ByteArray)=bstr [114,97,110,100,40] from rfl,show({ data:=#[41] }:ByteArray)=bstr [41] from rfl]
  simp[zax])
 have Y:=H.out.cell (i:=0) rfl;have O:=H.out.cell (i:=3) rfl;clear HL g d A z h0 I;go_wp2_with fail
 go_at_call 77;refine(R.out _ (yR _ _)).mono ?_;rintro e2 w2⟨rfl,E⟩;have Q:=zh (f.out.trans (E.mono f.out.size));clear E Y O c0 c1 c2 c3;go_wp2_with fail
 exact yE (v:=.string (({ data:=#[114,97,110,100,40] }++J)++{ data:=#[41] })) (by simp[results,Tryz.results77,go_sem]) rfl ⟨by rw[HT.out],Q.out⟩
theorem rw_abs{w:World}{B:Nat}{y:Ex}(h0:WrR B y)(I:(zab y).length<=1000000000000000){v:Value}(N:EsL w B [y] v)(hB:B<=w.heap.size) :
  Calls Tryz.prog 77 #[.agg #[.int .u8 9,.int .i64 0,.string (bstr []),v]] w (TxtE ([97,98,115]++[40]++zab y++[41]) w):=by
 obtain⟨a,cap,rfl,ae,af⟩:=N.form;obtain⟨K,G,D,u⟩:∃K,K=w.alloc (.cells #[.int .u8 9,.int .i64 0,.string (bstr []),.slice a 1 cap] 29)/\Below w.heap.size w K/\OwnV K w.heap.size 29 [.int .u8 9,.int .i64 0,.string (bstr []),.slice a 1 cap]:=⟨_,rfl,(yR _ _).alloc (zr _) _,OwnV.new _ _ _⟩;have g:Hid (∀W,Calls Tryz.prog 120 #[.agg #[.int .u8 9,.int .i64 0,.string (bstr []),.slice a 1 cap]] W _):=zh (fun W=>strength_any (op:=9) (n:=0) (nm:=(bstr [])) (v:=.slice a 1 cap) (by decide) (by decide) ⟨_,_,_,rfl⟩ W);rw[show zar 9=6 by decide] at g;obtain⟨TX,j⟩:∃X:List UInt8,[97,98,115]++[40]++zab y++[41]=X:=⟨_,rfl⟩;rw[j];have P:=zh j;clear j;have V:=zh G;have U:=zh u;have C:=zh D;have HL:=zh N;obtain⟨Y,x1,x2,O⟩:=yc4 u;clear G u D N;go_enter Tryz.func77,Tryz.ntmps77
 go_upto_region 1 with(fail)
 rw[<-V.out];go_wp2_with fail
 go_at_call 120;refine(g.out _).mono ?_;rintro e1 T⟨rfl,q⟩;have f:=zh (C.out.trans (q.mono C.out.size));have H:=zh (U.out.below q (zr _));clear q Y x1 x2 O;have F:B<=T.heap.size:=yT hB f.out.size;have A:=HL.out.low (f.out.mono hB);obtain⟨b,ac,l,Z,nm0,m,M,aa,rfl,ag,ad,L,c0,c1,c2,c3,z⟩:=A.at (k:=0) (by simp);cases L;obtain⟨J,d⟩:∃S,bstr (zab (.mk l Z nm0 m))=S:=⟨_,rfl⟩;have ab:J.size<=1000000000000010:=by rw[<-d,zaC];exact yT I (by decide)
 have R:Hid (∀W,Below T.heap.size T W->Calls Tryz.prog 77 #[.agg #[.int .u8 l,.int .i64 Z,.string (bstr nm0),.slice M m.length aa]] W fun e w'=>e=.returned (.string J)/\Below W.heap.size W w'):=zh (fun W hb=>by rw[<-d];exact h0 l Z nm0 m _ W rfl (yT F hb.size) (z.low (hb.mono F)));simp only[Nat.zero_mul,Nat.add_zero,Nat.one_mul] at c0 c1 c2 c3
 have HT:Hid (bstr TX=({ data:=#[97,98,115,40] }++J)++{ data:=#[41] }):=zh (by
  rw[<-P.out,<-d,show({ data:=#[97,98,115,40] }:ByteArray)=bstr [97,98,115,40] from rfl,show({ data:=#[41] }:ByteArray)=bstr [41] from rfl]
  simp[zax])
 have Y:=H.out.cell (i:=0) rfl;have O:=H.out.cell (i:=3) rfl;clear HL g d A z h0 I;go_wp2_with fail
 go_at_call 77;refine(R.out _ (yR _ _)).mono ?_;rintro e2 w2⟨rfl,E⟩;have Q:=zh (f.out.trans (E.mono f.out.size));clear E Y O c0 c1 c2 c3;go_wp2_with fail
 exact yE (v:=.string (({ data:=#[97,98,115,40] }++J)++{ data:=#[41] })) (by simp[results,Tryz.results77,go_sem]) rfl ⟨by rw[HT.out],Q.out⟩
theorem rw_neg{w:World}{B:Nat}{y:Ex}(l:1<=opE y/\opE y<=24)(h0:WrR B y)(J:(zab y).length<=1000000000000000){v:Value}(O:EsL w B [y] v)(hB:B<=w.heap.size) :
  Calls Tryz.prog 77 #[.agg #[.int .u8 7,.int .i64 0,.string (bstr []),v]] w (TxtE ([45]++zak y 6) w):=by
 obtain⟨a,cap,rfl,ae,af⟩:=O.form;obtain⟨L,H,E,z⟩:∃L,L=w.alloc (.cells #[.int .u8 7,.int .i64 0,.string (bstr []),.slice a 1 cap] 29)/\Below w.heap.size w L/\OwnV L w.heap.size 29 [.int .u8 7,.int .i64 0,.string (bstr []),.slice a 1 cap]:=⟨_,rfl,(yR _ _).alloc (zr _) _,OwnV.new _ _ _⟩;have g:Hid (∀W,Calls Tryz.prog 120 #[.agg #[.int .u8 7,.int .i64 0,.string (bstr []),.slice a 1 cap]] W _):=zh (fun W=>strength_any (op:=7) (n:=0) (nm:=(bstr [])) (v:=.slice a 1 cap) (by decide) (by decide) ⟨_,_,_,rfl⟩ W);rw[show zar 7=6 by decide] at g;obtain⟨TX,j⟩:∃X:List UInt8,[45]++zak y 6=X:=⟨_,rfl⟩;rw[j];have Q:=zh j;clear j;have Y:=zh H;have V:=zh z;have D:=zh E;have HL:=zh O;obtain⟨Z,x1,x2,P⟩:=yc4 z;clear H z E O;go_enter Tryz.func77,Tryz.ntmps77
 go_upto_region 1 with(fail)
 rw[<-Y.out];go_wp2_with fail
 go_at_call 120;refine(g.out _).mono ?_;rintro e1 U⟨rfl,u⟩;have f:=zh (D.out.trans (u.mono D.out.size));have I:=zh (V.out.below u (zr _));clear u Z x1 x2 P;have G:B<=U.heap.size:=yT hB f.out.size;have C:=HL.out.low (f.out.mono hB);obtain⟨b,ac,m,n0,nm0,q,N,aa,rfl,ag,ad,M,c0,c1,c2,c3,A⟩:=C.at (k:=0) (by simp);cases M;obtain⟨K,d⟩:∃S,bstr (zak (.mk m n0 nm0 q) (6))=S:=⟨_,rfl⟩;have ab:K.size<=1000000000000010:=by rw[<-d,zaC];have:=zkr (.mk m n0 nm0 q) (6);omega
 have T:Hid (∀W,Below U.heap.size U W->Calls Tryz.prog 121 #[.agg #[.int .u8 m,.int .i64 n0,.string (bstr nm0),.slice N q.length aa],.int .i64 (6:Nat)] W fun e w'=>e=.returned (.string K)/\Below W.heap.size W w'):=zh (fun W hb=>by rw[<-d];exact rpart_any l.1 l.2 (by decide) J h0 (yT G hb.size) (A.low (hb.mono G)));simp only[Nat.zero_mul,Nat.add_zero,Nat.one_mul] at c0 c1 c2 c3
 have HT:Hid (bstr TX={ data:=#[45] }++K):=zh (by
  rw[<-Q.out,<-d,show({ data:=#[45] }:ByteArray)=bstr [45] from rfl]
  simp[zax])
 have Z:=I.out.cell (i:=0) rfl;have P:=I.out.cell (i:=3) rfl;clear HL g d C A h0 J l;go_wp2_with fail
 go_at_call 121;refine(T.out _ (yR _ _)).mono ?_;rintro e2 w2⟨rfl,F⟩;have R:=zh (f.out.trans (F.mono f.out.size));clear F Z P c0 c1 c2 c3;go_wp2_with fail
 exact yE (v:=.string ({ data:=#[45] }++K)) (by simp[results,Tryz.results77,go_sem]) rfl ⟨by rw[HT.out],R.out⟩
theorem rw_not{w:World}{B:Nat}{y:Ex}(l:1<=opE y/\opE y<=24)(h0:WrR B y)(J:(zab y).length<=1000000000000000){v:Value}(O:EsL w B [y] v)(hB:B<=w.heap.size) :
  Calls Tryz.prog 77 #[.agg #[.int .u8 8,.int .i64 0,.string (bstr []),v]] w (TxtE ([33]++zak y 6) w):=by
 obtain⟨a,cap,rfl,ae,af⟩:=O.form;obtain⟨L,H,E,z⟩:∃L,L=w.alloc (.cells #[.int .u8 8,.int .i64 0,.string (bstr []),.slice a 1 cap] 29)/\Below w.heap.size w L/\OwnV L w.heap.size 29 [.int .u8 8,.int .i64 0,.string (bstr []),.slice a 1 cap]:=⟨_,rfl,(yR _ _).alloc (zr _) _,OwnV.new _ _ _⟩;have g:Hid (∀W,Calls Tryz.prog 120 #[.agg #[.int .u8 8,.int .i64 0,.string (bstr []),.slice a 1 cap]] W _):=zh (fun W=>strength_any (op:=8) (n:=0) (nm:=(bstr [])) (v:=.slice a 1 cap) (by decide) (by decide) ⟨_,_,_,rfl⟩ W);rw[show zar 8=6 by decide] at g;obtain⟨TX,j⟩:∃X:List UInt8,[33]++zak y 6=X:=⟨_,rfl⟩;rw[j];have Q:=zh j;clear j;have Y:=zh H;have V:=zh z;have D:=zh E;have HL:=zh O;obtain⟨Z,x1,x2,P⟩:=yc4 z;clear H z E O;go_enter Tryz.func77,Tryz.ntmps77
 go_upto_region 1 with(fail)
 rw[<-Y.out];go_wp2_with fail
 go_at_call 120;refine(g.out _).mono ?_;rintro e1 U⟨rfl,u⟩;have f:=zh (D.out.trans (u.mono D.out.size));have I:=zh (V.out.below u (zr _));clear u Z x1 x2 P;have G:B<=U.heap.size:=yT hB f.out.size;have C:=HL.out.low (f.out.mono hB);obtain⟨b,ac,m,n0,nm0,q,N,aa,rfl,ag,ad,M,c0,c1,c2,c3,A⟩:=C.at (k:=0) (by simp);cases M;obtain⟨K,d⟩:∃S,bstr (zak (.mk m n0 nm0 q) (6))=S:=⟨_,rfl⟩;have ab:K.size<=1000000000000010:=by rw[<-d,zaC];have:=zkr (.mk m n0 nm0 q) (6);omega
 have T:Hid (∀W,Below U.heap.size U W->Calls Tryz.prog 121 #[.agg #[.int .u8 m,.int .i64 n0,.string (bstr nm0),.slice N q.length aa],.int .i64 (6:Nat)] W fun e w'=>e=.returned (.string K)/\Below W.heap.size W w'):=zh (fun W hb=>by rw[<-d];exact rpart_any l.1 l.2 (by decide) J h0 (yT G hb.size) (A.low (hb.mono G)));simp only[Nat.zero_mul,Nat.add_zero,Nat.one_mul] at c0 c1 c2 c3
 have HT:Hid (bstr TX={ data:=#[33] }++K):=zh (by
  rw[<-Q.out,<-d,show({ data:=#[33] }:ByteArray)=bstr [33] from rfl]
  simp[zax])
 have Z:=I.out.cell (i:=0) rfl;have P:=I.out.cell (i:=3) rfl;clear HL g d C A h0 J l;go_wp2_with fail
 go_at_call 121;refine(T.out _ (yR _ _)).mono ?_;rintro e2 w2⟨rfl,F⟩;have R:=zh (f.out.trans (F.mono f.out.size));clear F Z P c0 c1 c2 c3;go_wp2_with fail
 exact yE (v:=.string ({ data:=#[33] }++K)) (by simp[results,Tryz.results77,go_sem]) rfl ⟨by rw[HT.out],R.out⟩
end Go.Proofs.YtoaojdobjinhfaaGreatDoor
