/- The reference's printer: write, two arguments and components. Printed by gen_rwrite.py. -/
import Derived.Test.YtoaojdobjinhfaaGreatDoorRWrCPz
set_option linter.unusedSimpArgs false
set_option linter.unusedVariables false
set_option maxRecDepth 100000
set_option maxHeartbeats 4000000
namespace Go.Proofs.YtoaojdobjinhfaaGreatDoor
open Go.RowKit

def rwComp (M : Nat) (KW : ByteArray) (j : Nat) (v : Value) (w : World) : Prop := (j = 0 -> ∃ kb koff kcap, v = .slice (some ⟨kb, koff, none⟩) 10 kcap /\ w.cell? ⟨kb, koff + M, none⟩ = some (.string KW)) /\ (j = 4 -> ∃ kb ko, v = .pointer (some ⟨kb, ko, none⟩) /\ w.cell? ⟨kb, ko, none⟩ = some (.string KW))
theorem rw_min{w:World}{B:Nat}{y z:Ex}(h0:WrR B y)(h1:WrR B z)(J:(zab y).length<=1000000000000000)(M:(zab z).length<=1000000000000000){v:Value}(hL:EsL w B [y,z] v)(hB:B<=w.heap.size) :
  Calls Tryz.prog 77 #[.agg #[.int .u8 23,.int .i64 0,.string (bstr []),v]] w (TxtE ([109,105,110]++[40]++zab y++[44,32]++zab z++[41]) w):=by
 obtain⟨a,cap,rfl,an,aA⟩:=hL.form;obtain⟨W0,R,N,H⟩:∃W0,W0=w.alloc (.cells #[.int .u8 23,.int .i64 0,.string (bstr []),.slice a 2 cap] 29)/\Below w.heap.size w W0/\OwnV W0 w.heap.size 29 [.int .u8 23,.int .i64 0,.string (bstr []),.slice a 2 cap]:=⟨_,rfl,(yR _ _).alloc (zr _) _,OwnV.new _ _ _⟩;have E:Hid (∀W,Calls Tryz.prog 120 #[.agg #[.int .u8 23,.int .i64 0,.string (bstr []),.slice a 2 cap]] W _):=zh (fun W=>strength_any (op:=23) (n:=0) (nm:=(bstr [])) (v:=.slice a 2 cap) (by decide) (by decide) ⟨_,_,_,rfl⟩ W);rw[show zar 23=6 by decide] at E;obtain⟨TX,F⟩:∃X:List UInt8,[109,105,110]++[40]++zab y++[44,32]++zab z++[41]=X:=⟨_,rfl⟩;rw[F];have ah:=zh F;clear F;have ai:=zh R;have ag:=zh H;have U:=zh N;have HL:=zh hL;obtain⟨Z,x1,x2,x3⟩:=yc4 H;clear R H N hL;go_enter Tryz.func77,Tryz.ntmps77
 go_upto_region 1 with(fail)
 rw[<-ai.out];go_wp2_with fail
 go_at_call 120;refine(E.out _).mono ?_;rintro e1 D⟨rfl,d⟩;have A:=zh (U.out.trans (d.mono U.out.size));have V:=zh (ag.out.below d (zr _));clear d Z x1 x2 x3;have C:B<=D.heap.size:=yT hB A.out.size;have G:=HL.out.low (A.out.mono hB);obtain⟨b,aw,g,n0,nm0,u,T,K,rfl,ar,az,aa,c0,c1,c2,c3,L⟩:=G.at (k:=0) (by simp);cases aa;obtain⟨Y,j⟩:∃S,bstr (zab (.mk g n0 nm0 u))=S:=⟨_,rfl⟩;have aj:Y.size<=1000000000000010:=by rw[<-j,zaC];exact yT J (by decide)
 have af:Hid (∀W,Below D.heap.size D W->Calls Tryz.prog 77 #[.agg #[.int .u8 g,.int .i64 n0,.string (bstr nm0),.slice T u.length K]] W fun e w'=>e=.returned (.string Y)/\Below W.heap.size W w'):=zh (fun W hb=>by rw[<-j];exact h0 g n0 nm0 u _ W rfl (yT C hb.size) (L.low (hb.mono C)));obtain⟨b1,ak,q,n1,nm1,m,I,Q,ae,-,-,ac,d0,d1,d2,d3,P⟩:=G.at (k:=1) (by simp);cases ae;cases ac;obtain⟨S1,l⟩:∃S,bstr (zab (.mk q n1 nm1 m))=S:=⟨_,rfl⟩;have am:S1.size<=1000000000000010:=by rw[<-l,zaC];exact yT M (by decide)
 have ab:Hid (∀W,Below D.heap.size D W->Calls Tryz.prog 77 #[.agg #[.int .u8 q,.int .i64 n1,.string (bstr nm1),.slice I m.length Q]] W fun e w'=>e=.returned (.string S1)/\Below W.heap.size W w'):=zh (fun W hb=>by rw[<-l];exact h1 q n1 nm1 m _ W rfl (yT C hb.size) (P.low (hb.mono C)));simp only[Nat.zero_mul,Nat.add_zero,Nat.one_mul] at c0 c1 c2 c3 d0 d1 d2 d3
 have HT:Hid (bstr TX=((({ data:=#[109,105,110,40] }++Y)++{ data:=#[44,32] })++S1)++{ data:=#[41] }):=zh (by
  rw[<-ah.out,<-j,<-l,show({ data:=#[109,105,110,40] }:ByteArray)=bstr [109,105,110,40] from rfl,show({ data:=#[44,32] }:ByteArray)=bstr [44,32] from rfl,show({ data:=#[41] }:ByteArray)=bstr [41] from rfl]
  simp[zax])
 have Z:=V.out.cell (i:=0) rfl;have x3:=V.out.cell (i:=3) rfl;clear HL E j l G L P h0 h1 J M;go_wp2_with fail
 refine zac (fun w'=>Below D.heap.size D w') (by kernel_rfl) (by kernel_rfl) ((yR _ _).drew) ?_
 repeat
  try simp only[Act.put,zs1,zs3,zs2]
  apply stepsSeq.cons
  ·intro w' d;have f:=zh d;have ao:=Below.keep d Z;have aE:=Below.keep d x3;have av:=Below.keep d c0;have au:=Below.keep d c1;have ap:=Below.keep d c2;have aC:=Below.keep d c3;have aD:=Below.keep d d0;have ay:=Below.keep d d1;have ax:=Below.keep d d2;have aq:=Below.keep d d3;simp only[Act.put,zs1,zs3,zs2];go_wp2_with ((first|(go_at_call_of 77 (Value.agg #[Value.int IntKind.u8 g,Value.int IntKind.i64 n0,Value.string (bstr nm0),Value.slice T u.length K]);refine(af.out _ f.out).mono ?_;rintro e2 w2⟨rfl,O⟩)|(go_at_call_of 77 (Value.agg #[Value.int IntKind.u8 q,Value.int IntKind.i64 n1,Value.string (bstr nm1),Value.slice I m.length Q]);refine(ab.out _ f.out).mono ?_;rintro e2 w2⟨rfl,O⟩)))
   first|exact⟨rfl,f.out⟩|exact⟨rfl,f.out.trans (O.mono f.out.size)⟩
 try simp only[Act.put,zs1,zs3,zs2]
 refine stepsSeq.nil ?_;intro w' d;have ad:=zh (A.out.trans (d.mono A.out.size));clear d Z x3 c0 c1 c2 c3 d0 d1 d2 d3;go_wp2_with fail
 exact yE (v:=.string (((({ data:=#[109,105,110,40] }++Y)++{ data:=#[44,32] })++S1)++{ data:=#[41] })) (by simp[results,Tryz.results77,go_sem]) rfl ⟨by rw[HT.out],ad.out⟩
theorem rw_max{w:World}{B:Nat}{y z:Ex}(h0:WrR B y)(h1:WrR B z)(J:(zab y).length<=1000000000000000)(M:(zab z).length<=1000000000000000){v:Value}(hL:EsL w B [y,z] v)(hB:B<=w.heap.size) :
  Calls Tryz.prog 77 #[.agg #[.int .u8 24,.int .i64 0,.string (bstr []),v]] w (TxtE ([109,97,120]++[40]++zab y++[44,32]++zab z++[41]) w):=by
 obtain⟨a,cap,rfl,an,aA⟩:=hL.form;obtain⟨W0,R,N,H⟩:∃W0,W0=w.alloc (.cells #[.int .u8 24,.int .i64 0,.string (bstr []),.slice a 2 cap] 29)/\Below w.heap.size w W0/\OwnV W0 w.heap.size 29 [.int .u8 24,.int .i64 0,.string (bstr []),.slice a 2 cap]:=⟨_,rfl,(yR _ _).alloc (zr _) _,OwnV.new _ _ _⟩;have E:Hid (∀W,Calls Tryz.prog 120 #[.agg #[.int .u8 24,.int .i64 0,.string (bstr []),.slice a 2 cap]] W _):=zh (fun W=>strength_any (op:=24) (n:=0) (nm:=(bstr [])) (v:=.slice a 2 cap) (by decide) (by decide) ⟨_,_,_,rfl⟩ W);rw[show zar 24=6 by decide] at E;obtain⟨TX,F⟩:∃X:List UInt8,[109,97,120]++[40]++zab y++[44,32]++zab z++[41]=X:=⟨_,rfl⟩;rw[F];have ah:=zh F;clear F;have ai:=zh R;have ag:=zh H;have U:=zh N;have HL:=zh hL;obtain⟨Z,x1,x2,x3⟩:=yc4 H;clear R H N hL;go_enter Tryz.func77,Tryz.ntmps77
 go_upto_region 1 with(fail)
 rw[<-ai.out];go_wp2_with fail
 go_at_call 120;refine(E.out _).mono ?_;rintro e1 D⟨rfl,d⟩;have A:=zh (U.out.trans (d.mono U.out.size));have V:=zh (ag.out.below d (zr _));clear d Z x1 x2 x3;have C:B<=D.heap.size:=yT hB A.out.size;have G:=HL.out.low (A.out.mono hB);obtain⟨b,aw,g,n0,nm0,u,T,K,rfl,ar,az,aa,c0,c1,c2,c3,L⟩:=G.at (k:=0) (by simp);cases aa;obtain⟨Y,j⟩:∃S,bstr (zab (.mk g n0 nm0 u))=S:=⟨_,rfl⟩;have aj:Y.size<=1000000000000010:=by rw[<-j,zaC];exact yT J (by decide)
 have af:Hid (∀W,Below D.heap.size D W->Calls Tryz.prog 77 #[.agg #[.int .u8 g,.int .i64 n0,.string (bstr nm0),.slice T u.length K]] W fun e w'=>e=.returned (.string Y)/\Below W.heap.size W w'):=zh (fun W hb=>by rw[<-j];exact h0 g n0 nm0 u _ W rfl (yT C hb.size) (L.low (hb.mono C)));obtain⟨b1,ak,q,n1,nm1,m,I,Q,ae,-,-,ac,d0,d1,d2,d3,P⟩:=G.at (k:=1) (by simp);cases ae;cases ac;obtain⟨S1,l⟩:∃S,bstr (zab (.mk q n1 nm1 m))=S:=⟨_,rfl⟩;have am:S1.size<=1000000000000010:=by rw[<-l,zaC];exact yT M (by decide)
 have ab:Hid (∀W,Below D.heap.size D W->Calls Tryz.prog 77 #[.agg #[.int .u8 q,.int .i64 n1,.string (bstr nm1),.slice I m.length Q]] W fun e w'=>e=.returned (.string S1)/\Below W.heap.size W w'):=zh (fun W hb=>by rw[<-l];exact h1 q n1 nm1 m _ W rfl (yT C hb.size) (P.low (hb.mono C)));simp only[Nat.zero_mul,Nat.add_zero,Nat.one_mul] at c0 c1 c2 c3 d0 d1 d2 d3
 have HT:Hid (bstr TX=((({ data:=#[109,97,120,40] }++Y)++{ data:=#[44,32] })++S1)++{ data:=#[41] }):=zh (by
  rw[<-ah.out,<-j,<-l,show({ data:=#[109,97,120,40] }:ByteArray)=bstr [109,97,120,40] from rfl,show({ data:=#[44,32] }:ByteArray)=bstr [44,32] from rfl,show({ data:=#[41] }:ByteArray)=bstr [41] from rfl]
  simp[zax])
 have Z:=V.out.cell (i:=0) rfl;have x3:=V.out.cell (i:=3) rfl;clear HL E j l G L P h0 h1 J M;go_wp2_with fail
 refine zac (fun w'=>Below D.heap.size D w') (by kernel_rfl) (by kernel_rfl) ((yR _ _).drew) ?_
 repeat
  try simp only[Act.put,zs1,zs3,zs2]
  apply stepsSeq.cons
  ·intro w' d;have f:=zh d;have ao:=Below.keep d Z;have aE:=Below.keep d x3;have av:=Below.keep d c0;have au:=Below.keep d c1;have ap:=Below.keep d c2;have aC:=Below.keep d c3;have aD:=Below.keep d d0;have ay:=Below.keep d d1;have ax:=Below.keep d d2;have aq:=Below.keep d d3;simp only[Act.put,zs1,zs3,zs2];go_wp2_with ((first|(go_at_call_of 77 (Value.agg #[Value.int IntKind.u8 g,Value.int IntKind.i64 n0,Value.string (bstr nm0),Value.slice T u.length K]);refine(af.out _ f.out).mono ?_;rintro e2 w2⟨rfl,O⟩)|(go_at_call_of 77 (Value.agg #[Value.int IntKind.u8 q,Value.int IntKind.i64 n1,Value.string (bstr nm1),Value.slice I m.length Q]);refine(ab.out _ f.out).mono ?_;rintro e2 w2⟨rfl,O⟩)))
   first|exact⟨rfl,f.out⟩|exact⟨rfl,f.out.trans (O.mono f.out.size)⟩
 try simp only[Act.put,zs1,zs3,zs2]
 refine stepsSeq.nil ?_;intro w' d;have ad:=zh (A.out.trans (d.mono A.out.size));clear d Z x3 c0 c1 c2 c3 d0 d1 d2 d3;go_wp2_with fail
 exact yE (v:=.string (((({ data:=#[109,97,120,40] }++Y)++{ data:=#[44,32] })++S1)++{ data:=#[41] })) (by simp[results,Tryz.results77,go_sem]) rfl ⟨by rw[HT.out],ad.out⟩
theorem rw_comp{w:World}{B:Nat}{y:Ex}{M:Nat}(az:M<10)(h0:WrR B y)(ab:(zab y).length<=1000000000000000){v:Value}(hL:EsL w B [y] v)(hB:B<=w.heap.size) :
  Calls Tryz.prog 77 #[.agg #[.int .u8 3,.int .i64 ((M:Int)+1),.string (bstr []),v]] w (TxtE (kindWords.getD M []++[91]++zab y++[93]) w):=by
 obtain⟨a,cap,rfl,ax,aF⟩:=hL.form;obtain⟨W0,af,ae,Z⟩:∃W0,W0=w.alloc (.cells #[.int .u8 3,.int .i64 ((M:Int)+1),.string (bstr []),.slice a 1 cap] 29)/\Below w.heap.size w W0/\OwnV W0 w.heap.size 29 [.int .u8 3,.int .i64 ((M:Int)+1),.string (bstr []),.slice a 1 cap]:=⟨_,rfl,(yR _ _).alloc (zr _) _,OwnV.new _ _ _⟩;have U:Hid (∀W,Calls Tryz.prog 120 #[.agg #[.int .u8 3,.int .i64 ((M:Int)+1),.string (bstr []),.slice a 1 cap]] W _):=zh (fun W=>strength_any (op:=3) (n:=((M:Int)+1)) (nm:=(bstr [])) (v:=.slice a 1 cap) (by decide) (by decide) ⟨_,_,_,rfl⟩ W);rw[show zar 3=6 by decide] at U;obtain⟨TX,Y⟩:∃X:List UInt8,kindWords.getD M []++[91]++zab y++[93]=X:=⟨_,rfl⟩;rw[Y];have ar:=zh Y;clear Y;have av:=zh af;have aq:=zh Z;have ah:=zh ae;have HL:=zh hL;obtain⟨x0,l,x2,m⟩:=yc4 Z;clear af Z ae hL;go_enter Tryz.func77,Tryz.ntmps77
 go_upto_region 1 with(fail)
 rw[<-av.out];go_wp2_with fail
 go_at_call 120;refine(U.out _).mono ?_;rintro e1 f⟨rfl,T⟩;have O:=zh (ah.out.trans (T.mono ah.out.size));have aa:=zh (aq.out.below T (zr _));clear T x0 l x2 m;have ai:B<=f.heap.size:=yT hB O.out.size;have ag:=HL.out.low (O.out.mono hB);obtain⟨b,C,G,n0,nm0,H,V,R,rfl,aA,aD,ak,A,q,u,z,ad⟩:=ag.at (k:=0) (by simp);cases ak;obtain⟨P,J⟩:∃S,bstr (zab (.mk G n0 nm0 H))=S:=⟨_,rfl⟩;have aw:P.size<=1000000000000010:=by rw[<-J,zaC];exact yT ab (by decide)
 have ap:Hid (∀W,Below f.heap.size f W->Calls Tryz.prog 77 #[.agg #[.int .u8 G,.int .i64 n0,.string (bstr nm0),.slice V H.length R]] W fun e w'=>e=.returned (.string P)/\Below W.heap.size W w'):=zh (fun W hb=>by rw[<-J];exact h0 G n0 nm0 H _ W rfl (yT ai hb.size) (ad.low (hb.mono ai)));simp only[Nat.zero_mul,Nat.add_zero,Nat.one_mul] at A q u z;obtain⟨I,L⟩:∃K,bstr (kindWords.getD M [])=K:=⟨_,rfl⟩
 have aG:I.size<=100:=by
  rw[<-L,zaC];have:=zd7 (n:=(M:Int)+1) (by omega) (by omega);rw[show((M:Int)+1-1).toNat=M by omega] at this;omega
 have HT:Hid (bstr TX=((I++{ data:=#[91] })++P)++{ data:=#[93] }):=zh (by
  rw[<-ar.out,<-J,<-L,show({ data:=#[91] }:ByteArray)=bstr [91] from rfl,show({ data:=#[93] }:ByteArray)=bstr [93] from rfl]
  simp[zax])
 have an:=zh L;have ay:(0:Int)<=(M:Int):=by omega
 have aE:(M:Int)<10:=by omega
 have aC:¬(M:Int)<0:=by omega
 have hw:IntKind.i64.wrap (M:Int)=M:=by simp[IntKind.wrap,IntKind.bits,IntKind.signed];omega
 have x0:=aa.out.cell (i:=0) rfl;have l:=aa.out.cell (i:=1) rfl;have m:=aa.out.cell (i:=3) rfl;clear HL U J ag ad h0 ab L;go_upto_region 14 with(fail)
 have D:Hid (∀w',Below f.heap.size f w'->(w'.cell? ⟨w.heap.size,1,none⟩=some (.int .i64 ((M:Int)+1))/\w'.cell? ⟨w.heap.size,3,none⟩=some (.slice (some ⟨b,C,none⟩) 1 cap))/\w'.cell? ⟨b,C,none⟩=some (.int .u8 G)/\w'.cell? ⟨b,C+1,none⟩=some (.int .i64 n0)/\w'.cell? ⟨b,C+2,none⟩=some (.string (bstr nm0))/\w'.cell? ⟨b,C+3,none⟩=some (.slice V H.length R)):=zh (fun w' hb=>⟨⟨Below.keep hb l,Below.keep hb m⟩,Below.keep hb A,Below.keep hb q,Below.keep hb u,Below.keep hb z⟩);refine wp_region_rel [none,some (.pointer (some ⟨w.heap.size,1,none⟩)),some (.int .i64 ((M:Int)+1)),some (.int .i64 (M:Int)),none,some (.string I),some (.string (I++{ data:=#[91] })),some (.pointer (some ⟨w.heap.size,3,none⟩)),some (.slice (some ⟨b,C,none⟩) 1 cap),some (.pointer (some ⟨b,C,none⟩)),some (.agg #[.int .u8 G,.int .i64 n0,.string (bstr nm0),.slice V H.length R]),some (.string P),some (.string ((I++{ data:=#[91] })++P)),some (.string (((I++{ data:=#[91] })++P)++{ data:=#[93] })),some (.string (((I++{ data:=#[91] })++P)++{ data:=#[93] }))] (rwComp M I) (by kernel_rfl) (by kernel_rfl) rfl ?hst ?hconst ?hs ?hf
 case hst =>
  rintro j v w w'⟨h1,h2⟩ hb;refine⟨fun e=>?_,fun e=>?_⟩
  ·obtain⟨Q,F,E,e1,e2⟩:=h1 e;exact⟨Q,F,E,e1,Below.keep hb e2⟩
  ·obtain⟨Q,ko,e1,e2⟩:=h2 e;exact⟨Q,ko,e1,Below.keep hb e2⟩
 case hconst =>
  refine fun j v w h=>⟨fun e=>?_,fun e=>?_⟩
  all_goals
   subst e;simp at h
 case hf =>
  intro X g hb _;simp only[zfb,zos,zob,zoc,zot,Nat.reduceAdd,Act.put,zs1,zs3,zs2];have am:Hid (Below w.heap.size w g):=zh (O.out.trans ((show Below f.heap.size f g from⟨hb.os,hb.tape,hb.output,hb.size,hb.block⟩).mono O.out.size));clear hb x0 l m A q u z;go_wp2_with fail
  exact yE (v:=.string (((I++{ data:=#[91] })++P)++{ data:=#[93] })) (by simp[results,Tryz.results77,go_sem]) rfl ⟨by rw[HT.out],am.out⟩
 case hs =>
  simp only[zfb,zos,zob,zoc,zot,Nat.reduceAdd,Act.put,zs1,zs3,zs2];refine stepsRel.cons ?_ (stepsRel.cons ?_ (stepsRel.cons ?_ (stepsRel.cons ?_ (stepsRel.cons ?_ (stepsRel.cons ?_ (stepsRel.cons ?_ (stepsRel.cons ?_ (stepsRel.cons ?_ (stepsRel.cons ?_ (stepsRel.cons ?_ (stepsRel.cons ?_ (stepsRel.cons ?_ (stepsRel.cons ?_ (stepsRel.cons ?_ (stepsRel.nil)))))))))))))))
  ·intro X g hb hp;have d:Below f.heap.size f g:=⟨hb.os,hb.tape,hb.output,hb.size,hb.block⟩;obtain⟨⟨l,m⟩,A,q,u,z⟩:=D.out _ d;clear hp hb;go_wp2_with fail
   go_at_call 51;refine(zlN _).mono ?_;rintro e3 w3⟨v3,rfl,ac,au⟩;obtain⟨Q,F,E,rfl,kc⟩:=rkinds_cell (N:=M+1) ac (by omega) (by omega);rw[show M+1-1=M from rfl,an.out] at kc;clear ac;go_wp2_with fail
   exact⟨⟨_,rfl,fun _=>⟨Q,F,E,rfl,kc⟩,fun e=>by cases e⟩,au⟩
  ·intro X g hb hp;have d:Below f.heap.size f g:=⟨hb.os,hb.tape,hb.output,hb.size,hb.block⟩;obtain⟨⟨l,m⟩,A,q,u,z⟩:=D.out _ d;clear hp hb;go_wp2_with fail
   exact⟨⟨_,rfl,rfl⟩,yR _ _⟩
  ·intro X g hb hp;have d:Below f.heap.size f g:=⟨hb.os,hb.tape,hb.output,hb.size,hb.block⟩;obtain⟨⟨l,m⟩,A,q,u,z⟩:=D.out _ d;clear hp hb;go_wp2_with fail
   exact⟨⟨_,rfl,rfl⟩,yR _ _⟩
  ·intro X g hb hp;have d:Below f.heap.size f g:=⟨hb.os,hb.tape,hb.output,hb.size,hb.block⟩;obtain⟨⟨l,m⟩,A,q,u,z⟩:=D.out _ d;clear hp hb;go_wp2_with fail
   exact⟨⟨_,rfl,rfl⟩,yR _ _⟩
  ·intro X g hb hp;have d:Below f.heap.size f g:=⟨hb.os,hb.tape,hb.output,hb.size,hb.block⟩;obtain⟨⟨l,m⟩,A,q,u,z⟩:=D.out _ d;obtain⟨Q,F,E,e,kc⟩:=(hp 0 (by kernel_rfl)).1 rfl;rw[e];clear hp hb e;go_wp2_with fail
   refine⟨⟨_,rfl,?_⟩,yR _ _⟩;exact(show rwComp M I 4 _ _ from⟨fun e=>(by cases e),fun _=>⟨Q,_,rfl,kc⟩⟩)
  ·intro X g hb hp;have d:Below f.heap.size f g:=⟨hb.os,hb.tape,hb.output,hb.size,hb.block⟩;obtain⟨⟨l,m⟩,A,q,u,z⟩:=D.out _ d;obtain⟨Q,ko,e,kc⟩:=(hp 4 (by kernel_rfl)).2 rfl;rw[e];clear hp hb e;go_wp2_with fail
   exact⟨⟨_,rfl,rfl⟩,yR _ _⟩
  ·intro X g hb hp;have d:Below f.heap.size f g:=⟨hb.os,hb.tape,hb.output,hb.size,hb.block⟩;obtain⟨⟨l,m⟩,A,q,u,z⟩:=D.out _ d;clear hp hb;go_wp2_with fail
   exact⟨⟨_,rfl,rfl⟩,yR _ _⟩
  ·intro X g hb hp;have d:Below f.heap.size f g:=⟨hb.os,hb.tape,hb.output,hb.size,hb.block⟩;obtain⟨⟨l,m⟩,A,q,u,z⟩:=D.out _ d;clear hp hb;go_wp2_with fail
   exact⟨⟨_,rfl,rfl⟩,yR _ _⟩
  ·intro X g hb hp;have d:Below f.heap.size f g:=⟨hb.os,hb.tape,hb.output,hb.size,hb.block⟩;obtain⟨⟨l,m⟩,A,q,u,z⟩:=D.out _ d;clear hp hb;go_wp2_with fail
   exact⟨⟨_,rfl,rfl⟩,yR _ _⟩
  ·intro X g hb hp;have d:Below f.heap.size f g:=⟨hb.os,hb.tape,hb.output,hb.size,hb.block⟩;obtain⟨⟨l,m⟩,A,q,u,z⟩:=D.out _ d;clear hp hb;go_wp2_with fail
   exact⟨⟨_,rfl,rfl⟩,yR _ _⟩
  ·intro X g hb hp;have d:Below f.heap.size f g:=⟨hb.os,hb.tape,hb.output,hb.size,hb.block⟩;obtain⟨⟨l,m⟩,A,q,u,z⟩:=D.out _ d;clear hp hb;go_wp2_with fail
   exact⟨⟨_,rfl,rfl⟩,yR _ _⟩
  ·intro X g hb hp;have d:Below f.heap.size f g:=⟨hb.os,hb.tape,hb.output,hb.size,hb.block⟩;obtain⟨⟨l,m⟩,A,q,u,z⟩:=D.out _ d;clear hp hb;go_wp2_with fail
   go_at_call 77;refine(ap.out _ d).mono ?_;rintro e4 w4⟨rfl,aj⟩;have ao:=zh aj;clear aj;go_wp2_with fail
   exact⟨⟨_,rfl,rfl⟩,ao.out⟩
  ·intro X g hb hp;have d:Below f.heap.size f g:=⟨hb.os,hb.tape,hb.output,hb.size,hb.block⟩;obtain⟨⟨l,m⟩,A,q,u,z⟩:=D.out _ d;clear hp hb;go_wp2_with fail
   exact⟨⟨_,rfl,rfl⟩,yR _ _⟩
  ·intro X g hb hp;have d:Below f.heap.size f g:=⟨hb.os,hb.tape,hb.output,hb.size,hb.block⟩;obtain⟨⟨l,m⟩,A,q,u,z⟩:=D.out _ d;clear hp hb;go_wp2_with fail
   exact⟨⟨_,rfl,rfl⟩,yR _ _⟩
  ·intro X g hb hp;have d:Below f.heap.size f g:=⟨hb.os,hb.tape,hb.output,hb.size,hb.block⟩;obtain⟨⟨l,m⟩,A,q,u,z⟩:=D.out _ d;clear hp hb;go_wp2_with fail
   exact⟨⟨_,rfl,rfl⟩,yR _ _⟩
theorem rw_bin3{w:World}{B:Nat}{op:Int}{y z:Ex}(hm:zar op=3)(ad:10<=op)(Z:op<=22)(I:1<=opE y/\opE y<=24)(M:1<=opE z/\opE z<=24)(h0:WrR B y)(h1:WrR B z)(ab:(zab y).length<=1000000000000000)(ai:(zab z).length<=1000000000000000){v:Value}(hL:EsL w B [y,z] v)(hB:B<=w.heap.size) :
  Calls Tryz.prog 77 #[.agg #[.int .u8 op,.int .i64 0,.string (bstr []),v]] w (TxtE (zak y (4)++[32]++zaO op++[32]++zak z (4)) w):=by
 obtain⟨a,cap,rfl,aL,aX⟩:=hL.form;obtain⟨W0,an,aj,Q⟩:∃W0,W0=w.alloc (.cells #[.int .u8 op,.int .i64 0,.string (bstr []),.slice a 2 cap] 29)/\Below w.heap.size w W0/\OwnV W0 w.heap.size 29 [.int .u8 op,.int .i64 0,.string (bstr []),.slice a 2 cap]:=⟨_,rfl,(yR _ _).alloc (zr _) _,OwnV.new _ _ _⟩;have q:Hid (∀W,Calls Tryz.prog 120 #[.agg #[.int .u8 op,.int .i64 0,.string (bstr []),.slice a 2 cap]] W _):=zh (fun W=>strength_any (op:=op) (n:=0) (nm:=(bstr [])) (v:=.slice a 2 cap) (by omega) (by omega) ⟨_,_,_,rfl⟩ W);rw[hm] at q;obtain⟨TX,N⟩:∃X:List UInt8,zak y (4)++[32]++zaO op++[32]++zak z (4)=X:=⟨_,rfl⟩;rw[N];have aG:=zh N;clear N;obtain⟨K,rfl⟩:∃K:Nat,op=(K:Int)+10:=⟨(op-10).toNat,by omega⟩;have hK:K<13:=by omega
 have aW:(K:Int)<13:=by omega
 have ap:=zeF ad Z;have ag:zaO ((K:Int)+10)=signWords.getD K []:=by unfold zaO;rw[show((K:Int)+10-10).toNat=K by omega]
 obtain⟨SG,C⟩:∃S,bstr (zaO ((K:Int)+10))=S:=⟨_,rfl⟩;have aK:SG.size<=2:=by rw[<-C,zaC];exact ap.1
 have aE:Hid (bstr (signWords.getD K [])=SG):=zh (by rw[<-ag];exact C);have aw:=zh an;have au:=zh Q;have av:=zh aj;have HL:=zh hL;obtain⟨U,x1,x2,V⟩:=yc4 Q;clear an Q aj hL;go_enter Tryz.func77,Tryz.ntmps77
 go_upto_region 1 with(fail)
 rw[<-aw.out];go_wp2_with fail
 go_at_call 120;refine(q.out _).mono ?_;rintro e1 T⟨rfl,d⟩;have P:=zh (av.out.trans (d.mono av.out.size));have R:=zh (au.out.below d (zr _));clear d U x1 x2 V;obtain⟨W2,aq,g,ah⟩:∃W2,W2=T.alloc (.cells #[.string { data:=#[42] },.string { data:=#[47] },.string { data:=#[37] },.string { data:=#[43] },.string { data:=#[45] },.string { data:=#[60] },.string { data:=#[60,61] },.string { data:=#[62] },.string { data:=#[62,61] },.string { data:=#[61,61] },.string { data:=#[33,61] },.string { data:=#[38,38] },.string { data:=#[124,124] }] 9)/\Below T.heap.size T W2/\OwnV W2 T.heap.size 9 (signWords.map fun s=>Value.string (bstr s)):=⟨_,rfl,(yR _ _).alloc (zr _) _,OwnV.new T 9 (signWords.map fun s=>Value.string (bstr s))⟩;have J:=zh (R.out.below g (zr _));have L:=zh (P.out.trans (g.mono P.out.size));have ao:=zh aq;have aa:=zh ah;obtain⟨U,x1,x2,V⟩:=yc4 R.out;obtain⟨z0,z1,z2,z3⟩:=yc4 J.out;clear aq g ah ag ap;go_upto_region 3 with(fail)
 rw[<-ao.out];clear U x1 x2 V;go_wp2_with fail
 go_at_call 120;refine(q.out _).mono ?_;rintro e3 H⟨rfl,E⟩;have ax:=zh (J.out.below E (zr _));have A:=zh (L.out.trans (E.mono L.out.size));have ae:=aa.out.below E (zr _)
 have y0:H.cell? ⟨T.heap.size,K,none⟩=some (.string SG):=by
  have:=ae.cell (i:=K) (v:=.string SG) (by
   rw[List.getElem?_map,<-aE.out];have:K=0∨K=1∨K=2∨K=3∨K=4∨K=5∨K=6∨K=7∨K=8∨K=9∨K=10∨K=11∨K=12:=by omega
   rcases this with rfl|rfl|rfl|rfl|rfl|rfl|rfl|rfl|rfl|rfl|rfl|rfl|rfl <;> rfl)
  exact this
 clear E ae z0 z1 z2 z3 J L ao aa;have G:B<=H.heap.size:=yT hB A.out.size;have O:=HL.out.low (A.out.mono hB);obtain⟨b,aS,j,n0,nm0,F,ar,ac,rfl,aP,aV,az,c0,c1,c2,c3,af⟩:=O.at (k:=0) (by simp);cases az;obtain⟨S0,l⟩:∃S,bstr (zak (.mk j n0 nm0 F) (4))=S:=⟨_,rfl⟩;have aH:S0.size<=1000000000000010:=by rw[<-l,zaC];have:=zkr (.mk j n0 nm0 F) (4);omega
 have aF:Hid (∀W,Below H.heap.size H W->Calls Tryz.prog 121 #[.agg #[.int .u8 j,.int .i64 n0,.string (bstr nm0),.slice ar F.length ac],.int .i64 (4)] W fun e w'=>e=.returned (.string S0)/\Below W.heap.size W w'):=zh (fun W hb=>by rw[<-l,show(4:Int)=((4:Nat):Int) by first|rfl|omega];exact rpart_any I.1 I.2 (by decide) ab h0 (yT G hb.size) (af.low (hb.mono G)));obtain⟨b1,aI,D,n1,nm1,u,Y,am,aD,-,-,aC,d0,d1,d2,d3,ak⟩:=O.at (k:=1) (by simp);cases aD;cases aC;obtain⟨S1,m⟩:∃S,bstr (zak (.mk D n1 nm1 u) (4))=S:=⟨_,rfl⟩;have aJ:S1.size<=1000000000000010:=by rw[<-m,zaC];have:=zkr (.mk D n1 nm1 u) (4);omega
 have aA:Hid (∀W,Below H.heap.size H W->Calls Tryz.prog 121 #[.agg #[.int .u8 D,.int .i64 n1,.string (bstr nm1),.slice Y u.length am],.int .i64 (4)] W fun e w'=>e=.returned (.string S1)/\Below W.heap.size W w'):=zh (fun W hb=>by rw[<-m,show(4:Int)=((4:Nat):Int) by first|rfl|omega];exact rpart_any M.1 M.2 (by decide) ai h1 (yT G hb.size) (ak.low (hb.mono G)));simp only[Nat.zero_mul,Nat.add_zero,Nat.one_mul] at c0 c1 c2 c3 d0 d1 d2 d3
 have HT:Hid (bstr TX=(((S0++{ data:=#[32] })++SG)++{ data:=#[32] })++S1):=zh (by
  rw[<-aG.out,<-l,<-m,<-C,show({ data:=#[32] }:ByteArray)=bstr [32] from rfl]
  simp[zax])
 have U:=ax.out.cell (i:=0) rfl;have V:=ax.out.cell (i:=3) rfl;clear HL l m O af ak h0 h1 ab ai C I M hm q R P aw au;go_wp2_with fail
 refine zac (fun w'=>Below H.heap.size H w') (by kernel_rfl) (by kernel_rfl) ((yR _ _).drew) ?_
 repeat
  try simp only[Act.put,zs1,zs3,zs2]
  apply stepsSeq.cons
  ·intro w' d;have f:=zh d;have aM:=Below.keep d U;have a1:=Below.keep d V;have a0:=Below.keep d y0;have aR:=Below.keep d c0;have aQ:=Below.keep d c1;have aN:=Below.keep d c2;have aY:=Below.keep d c3;have aZ:=Below.keep d d0;have aU:=Below.keep d d1;have aT:=Below.keep d d2;have aO:=Below.keep d d3;simp only[Act.put,zs1,zs3,zs2];go_wp2_with ((first|(go_at_call_of 121 (Value.agg #[Value.int IntKind.u8 j,Value.int IntKind.i64 n0,Value.string (bstr nm0),Value.slice ar F.length ac]);refine(aF.out _ f.out).mono ?_;rintro e2 w2⟨rfl,g⟩)|(go_at_call_of 121 (Value.agg #[Value.int IntKind.u8 D,Value.int IntKind.i64 n1,Value.string (bstr nm1),Value.slice Y u.length am]);refine(aA.out _ f.out).mono ?_;rintro e2 w2⟨rfl,g⟩)))
   first|exact⟨rfl,f.out⟩|exact⟨rfl,f.out.trans (g.mono f.out.size)⟩
 try simp only[Act.put,zs1,zs3,zs2]
 refine stepsSeq.nil ?_;intro w' d;have ay:=zh (A.out.trans (d.mono A.out.size));clear d U V y0 c0 c1 c2 c3 d0 d1 d2 d3;go_wp2_with fail
 exact yE (v:=.string ((((S0++{ data:=#[32] })++SG)++{ data:=#[32] })++S1)) (by simp[results,Tryz.results77,go_sem]) rfl ⟨by rw[HT.out],ay.out⟩
theorem rw_binn{w:World}{B:Nat}{op:Int}{y z:Ex}{m:Nat}(hm:zar op=m)(aP:m<=5)(aW:m≠3)(ae:10<=op)(aa:op<=22)(J:1<=opE y/\opE y<=24)(N:1<=opE z/\opE z<=24)(h0:WrR B y)(h1:WrR B z)(ac:(zab y).length<=1000000000000000)(aj:(zab z).length<=1000000000000000){v:Value}(hL:EsL w B [y,z] v)(hB:B<=w.heap.size) :
  Calls Tryz.prog 77 #[.agg #[.int .u8 op,.int .i64 0,.string (bstr []),v]] w (TxtE (zak y (m)++[32]++zaO op++[32]++zak z (m+1)) w):=by
 obtain⟨a,cap,rfl,aM,a2⟩:=hL.form;obtain⟨W0,ao,ak,R⟩:∃W0,W0=w.alloc (.cells #[.int .u8 op,.int .i64 0,.string (bstr []),.slice a 2 cap] 29)/\Below w.heap.size w W0/\OwnV W0 w.heap.size 29 [.int .u8 op,.int .i64 0,.string (bstr []),.slice a 2 cap]:=⟨_,rfl,(yR _ _).alloc (zr _) _,OwnV.new _ _ _⟩;have u:Hid (∀W,Calls Tryz.prog 120 #[.agg #[.int .u8 op,.int .i64 0,.string (bstr []),.slice a 2 cap]] W _):=zh (fun W=>strength_any (op:=op) (n:=0) (nm:=(bstr [])) (v:=.slice a 2 cap) (by omega) (by omega) ⟨_,_,_,rfl⟩ W);rw[hm] at u;obtain⟨TX,O⟩:∃X:List UInt8,zak y (m)++[32]++zaO op++[32]++zak z (m+1)=X:=⟨_,rfl⟩;rw[O];have aH:=zh O;clear O;have aQ:(m:Int)<6:=by omega
 have aX:((m:Int)==3)=false:=by rw[beq_eq_false_iff_ne];omega
 obtain⟨K,rfl⟩:∃K:Nat,op=(K:Int)+10:=⟨(op-10).toNat,by omega⟩;have hK:K<13:=by omega
 have a1:(K:Int)<13:=by omega
 have aq:=zeF ae aa;have ah:zaO ((K:Int)+10)=signWords.getD K []:=by unfold zaO;rw[show((K:Int)+10-10).toNat=K by omega]
 obtain⟨SG,D⟩:∃S,bstr (zaO ((K:Int)+10))=S:=⟨_,rfl⟩;have aL:SG.size<=2:=by rw[<-D,zaC];exact aq.1
 have aF:Hid (bstr (signWords.getD K [])=SG):=zh (by rw[<-ah];exact D);have ax:=zh ao;have av:=zh R;have aw:=zh ak;have HL:=zh hL;obtain⟨V,x1,x2,Y⟩:=yc4 R;clear ao R ak hL;go_enter Tryz.func77,Tryz.ntmps77
 go_upto_region 1 with(fail)
 rw[<-ax.out];go_wp2_with fail
 go_at_call 120;refine(u.out _).mono ?_;rintro e1 U⟨rfl,d⟩;have Q:=zh (aw.out.trans (d.mono aw.out.size));have T:=zh (av.out.below d (zr _));clear d V x1 x2 Y;obtain⟨W2,ar,g,ai⟩:∃W2,W2=U.alloc (.cells #[.string { data:=#[42] },.string { data:=#[47] },.string { data:=#[37] },.string { data:=#[43] },.string { data:=#[45] },.string { data:=#[60] },.string { data:=#[60,61] },.string { data:=#[62] },.string { data:=#[62,61] },.string { data:=#[61,61] },.string { data:=#[33,61] },.string { data:=#[38,38] },.string { data:=#[124,124] }] 9)/\Below U.heap.size U W2/\OwnV W2 U.heap.size 9 (signWords.map fun s=>Value.string (bstr s)):=⟨_,rfl,(yR _ _).alloc (zr _) _,OwnV.new U 9 (signWords.map fun s=>Value.string (bstr s))⟩;have L:=zh (T.out.below g (zr _));have M:=zh (Q.out.trans (g.mono Q.out.size));have ap:=zh ar;have ab:=zh ai;obtain⟨V,x1,x2,Y⟩:=yc4 T.out;obtain⟨z0,z1,z2,z3⟩:=yc4 L.out;clear ar g ai ah aq;go_upto_region 3 with(fail)
 rw[<-ap.out];clear V x1 x2 Y;go_wp2_with fail
 go_at_call 120;refine(u.out _).mono ?_;rintro e3 I⟨rfl,F⟩;have ay:=zh (L.out.below F (zr _));have C:=zh (M.out.trans (F.mono M.out.size));have af:=ab.out.below F (zr _)
 have y0:I.cell? ⟨U.heap.size,K,none⟩=some (.string SG):=by
  have:=af.cell (i:=K) (v:=.string SG) (by
   rw[List.getElem?_map,<-aF.out];have:K=0∨K=1∨K=2∨K=3∨K=4∨K=5∨K=6∨K=7∨K=8∨K=9∨K=10∨K=11∨K=12:=by omega
   rcases this with rfl|rfl|rfl|rfl|rfl|rfl|rfl|rfl|rfl|rfl|rfl|rfl|rfl <;> rfl)
  exact this
 clear F af z0 z1 z2 z3 L M ap ab;have H:B<=I.heap.size:=yT hB C.out.size;have P:=HL.out.low (C.out.mono hB);obtain⟨b,aV,j,n0,nm0,G,au,ad,rfl,aS,a0,aA,c0,c1,c2,c3,ag⟩:=P.at (k:=0) (by simp);cases aA;obtain⟨S0,l⟩:∃S,bstr (zak (.mk j n0 nm0 G) (m))=S:=⟨_,rfl⟩;have aI:S0.size<=1000000000000010:=by rw[<-l,zaC];have:=zkr (.mk j n0 nm0 G) (m);omega
 have aG:Hid (∀W,Below I.heap.size I W->Calls Tryz.prog 121 #[.agg #[.int .u8 j,.int .i64 n0,.string (bstr nm0),.slice au G.length ad],.int .i64 ((m:Int))] W fun e w'=>e=.returned (.string S0)/\Below W.heap.size W w'):=zh (fun W hb=>by rw[<-l,show((m:Int):Int)=((m:Nat):Int) by first|rfl|omega];exact rpart_any J.1 J.2 (by omega) ac h0 (yT H hb.size) (ag.low (hb.mono H)));obtain⟨b1,aJ,E,n1,nm1,A,Z,an,aE,-,-,aD,d0,d1,d2,d3,am⟩:=P.at (k:=1) (by simp);cases aE;cases aD;obtain⟨S1,q⟩:∃S,bstr (zak (.mk E n1 nm1 A) (m+1))=S:=⟨_,rfl⟩;have aK:S1.size<=1000000000000010:=by rw[<-q,zaC];have:=zkr (.mk E n1 nm1 A) (m+1);omega
 have aC:Hid (∀W,Below I.heap.size I W->Calls Tryz.prog 121 #[.agg #[.int .u8 E,.int .i64 n1,.string (bstr nm1),.slice Z A.length an],.int .i64 ((m:Int)+1)] W fun e w'=>e=.returned (.string S1)/\Below W.heap.size W w'):=zh (fun W hb=>by rw[<-q,show((m:Int)+1:Int)=((m+1:Nat):Int) by first|rfl|omega];exact rpart_any N.1 N.2 (by omega) aj h1 (yT H hb.size) (am.low (hb.mono H)));simp only[Nat.zero_mul,Nat.add_zero,Nat.one_mul] at c0 c1 c2 c3 d0 d1 d2 d3
 have HT:Hid (bstr TX=(((S0++{ data:=#[32] })++SG)++{ data:=#[32] })++S1):=zh (by
  rw[<-aH.out,<-l,<-q,<-D,show({ data:=#[32] }:ByteArray)=bstr [32] from rfl]
  simp[zax])
 have V:=ay.out.cell (i:=0) rfl;have Y:=ay.out.cell (i:=3) rfl;clear HL l q P ag am h0 h1 ac aj D J N hm u T Q ax av;go_wp2_with fail
 refine zac (fun w'=>Below I.heap.size I w') (by kernel_rfl) (by kernel_rfl) ((yR _ _).drew) ?_
 repeat
  try simp only[Act.put,zs1,zs3,zs2]
  apply stepsSeq.cons
  ·intro w' d;have f:=zh d;have aN:=Below.keep d V;have a6:=Below.keep d Y;have a5:=Below.keep d y0;have aU:=Below.keep d c0;have aT:=Below.keep d c1;have aO:=Below.keep d c2;have a3:=Below.keep d c3;have a4:=Below.keep d d0;have aZ:=Below.keep d d1;have aY:=Below.keep d d2;have aR:=Below.keep d d3;simp only[Act.put,zs1,zs3,zs2];go_wp2_with ((first|(go_at_call_of 121 (Value.agg #[Value.int IntKind.u8 j,Value.int IntKind.i64 n0,Value.string (bstr nm0),Value.slice au G.length ad]);refine(aG.out _ f.out).mono ?_;rintro e2 w2⟨rfl,g⟩)|(go_at_call_of 121 (Value.agg #[Value.int IntKind.u8 E,Value.int IntKind.i64 n1,Value.string (bstr nm1),Value.slice Z A.length an]);refine(aC.out _ f.out).mono ?_;rintro e2 w2⟨rfl,g⟩)))
   first|exact⟨rfl,f.out⟩|exact⟨rfl,f.out.trans (g.mono f.out.size)⟩
 try simp only[Act.put,zs1,zs3,zs2]
 refine stepsSeq.nil ?_;intro w' d;have az:=zh (C.out.trans (d.mono C.out.size));clear d V Y y0 c0 c1 c2 c3 d0 d1 d2 d3;go_wp2_with fail
 exact yE (v:=.string ((((S0++{ data:=#[32] })++SG)++{ data:=#[32] })++S1)) (by simp[results,Tryz.results77,go_sem]) rfl ⟨by rw[HT.out],az.out⟩

theorem shp_op{d:Nat}{x:Ex}(h:Shp d x):1<=opE x/\opE x<=24:=by
 cases h with
 | num=>simp only[opE];omega
 | var=>simp only[opE];omega
 | comp=>simp only[opE];omega
 | leaf h=>rcases h with rfl|rfl <;>(simp only[opE];omega)
 | call h=>rcases h with rfl|rfl <;>(simp only[opE];omega)
 | pre h=>rcases h with rfl|rfl <;>(simp only[opE];omega)
 | bin h0 h1=>simp only[opE];omega
 | two h=>rcases h with rfl|rfl <;>(simp only[opE];omega)
theorem rwrite_shp{B:Nat}:∀{d:Nat} {x:Ex},Shp d x->d<=40->WrR B x:=by
 have m:∀{d:Nat} {x:Ex},Shp d x->d<=40->(zab x).length<=1000000000000000:=fun {d x} h hd=>by
  have:=zaE h hd 1;rwa[zaL] at this
 intro d x h
 induction h with
 | @num d n h0 h1 =>
  intro hd l q g i v w e f j;cases e;obtain⟨N,rfl⟩:∃N:Nat,n=(N:Int):=⟨n.toNat,by omega⟩;rw[zcq]
  exact rw_num (by omega) j f
 | @var d s h =>
  intro hd l q g i v w e f j;cases e;rw[zcr]
  exact rw_var j f
 | @comp d n a h0 h1 hs ih =>
  intro hd l q g i v w e f j;cases e;obtain⟨N,rfl⟩:∃N:Nat,n=(N:Int)+1:=⟨(n-1).toNat,by omega⟩;rw[zdu,show((N:Int)+1-1).toNat=N from by omega]
  exact rw_comp (by omega) (ih (by omega)) (m hs (by omega)) j f
 | @leaf d op h =>
  intro hd l q g i v w e f j;cases e;rcases h with rfl|rfl
  ·rw[zep];exact rw_tick j f
  ·rw[zeq];exact rw_self j f
 | @call d op a ho hs ih =>
  intro hd l q g i v w e f j;cases e;rcases ho with rfl|rfl
  ·rw[zdv];exact rw_rand (ih (by omega)) (m hs (by omega)) j f
  ·rw[zcN];exact rw_abs (ih (by omega)) (m hs (by omega)) j f
 | @pre d op a ho hs ih =>
  intro hd l q g i v w e f j;cases e;have hp:zaN (zat a,zab a) 6=zak a 6:=by cases a;rfl
  rcases ho with rfl|rfl
  ·rw[zcs,hp];exact rw_neg (shp_op hs) (ih (by omega)) (m hs (by omega)) j f
  ·rw[zdm,hp];exact rw_not (shp_op hs) (ih (by omega)) (m hs (by omega)) j f
 | @bin d op a b h0 h1 ha hb iha ihb =>
  intro hd l q g i v w e f j;cases e;obtain⟨-,-,z,y⟩:=zdE h0 h1;have A:∀k,zaN (zat a,zab a) k=zak a k:=fun k=>by cases a;rfl
  have C:∀k,zaN (zat b,zab b) k=zak b k:=fun k=>by cases b;rfl
  rw[zb0 h0 h1,A,C];by_cases u:zar op=3
  ·rw[u];exact rw_bin3 u h0 h1 (shp_op ha) (shp_op hb) (iha (by omega)) (ihb (by omega)) (m ha (by omega)) (m hb (by omega)) j f
  ·rw[show zby (zar op)=zar op by unfold zby;rw[yN u]]
   exact rw_binn rfl (by omega) u h0 h1 (shp_op ha) (shp_op hb) (iha (by omega)) (ihb (by omega)) (m ha (by omega)) (m hb (by omega)) j f
 | @two d op a b ho ha hb iha ihb =>
  intro hd l q g i v w e f j;cases e;rcases ho with rfl|rfl
  ·rw[zdT];exact rw_min (iha (by omega)) (ihb (by omega)) (m ha (by omega)) (m hb (by omega)) j f
  ·rw[zdU];exact rw_max (iha (by omega)) (ihb (by omega)) (m ha (by omega)) (m hb (by omega)) j f
theorem refExprText_any{w:World}{B:Nat}{op n:Int}{name:List UInt8}{args:List Ex}{v:Value}(u:okE (.mk op n name args))(P:EsL w B args v)(hB:B<=w.heap.size) :
  Calls Tryz.prog 45 #[.agg #[.int .u8 op,.int .i64 n,.string (bstr name),v]] w (zks (zbK (.mk op n name args)) w):=by
 obtain⟨a,cap,rfl,Y,aa⟩:=P.form;have z:=P.mono hB;obtain⟨H,K,l,C⟩:∃H,H=w.alloc (.cells #[.int .u8 op,.int .i64 n,.string (bstr name),.slice a args.length cap] 29)/\Below w.heap.size w H/\OwnV H w.heap.size 29 [.int .u8 op,.int .i64 n,.string (bstr name),.slice a args.length cap]:=⟨_,rfl,(yR _ _).alloc (zr _) _,OwnV.new _ _ _⟩;have I:=zh (fine_any 40 (by omega) op n name args (.slice a args.length cap) H w.heap.size u (z.low l) l.size);have F:Hid (zbd 40 (.mk op n name args)=true->∀W,Below w.heap.size w W->Calls Tryz.prog 77 #[.agg #[.int .u8 op,.int .i64 n,.string (bstr name),.slice a args.length cap]] W (TxtE (zab (.mk op n name args)) W)):=zh (fun hf W hb=>rwrite_shp (zfB 40 _ hf u) (by omega) op n name args (.slice a args.length cap) W rfl hb.size (z.low hb));unfold zbK
 generalize E:zab (.mk op n name args)=T at *
 generalize zbd 40 (.mk op n name args)=q at *
 have J:=zh K;have j:=zh l;have R:=zh C;obtain⟨N,O,M,L⟩:=yc4 C;clear K l C u P z E
 cases q with
 | false =>
  rw[yN (by decide)];go_enter Tryz.func45,Tryz.ntmps45
  go_upto_region 1 with(fail)
  rw[<-J.out];go_wp2_with fail
  go_at_call 76;refine I.out.mono ?_;rintro e1 V⟨rfl,g⟩;have d:=zh (j.out.trans (g.mono j.out.size));clear g;go_wp2_with fail
  exact yE (v:=.tuple #[.string { data:=#[] },.int .i64 2]) (by simp[results,Tryz.results45,go_sem]) rfl ⟨rfl,d.out⟩
 | true =>
  rw[yP rfl];have m:=zh (F.out rfl);clear F;go_enter Tryz.func45,Tryz.ntmps45
  go_upto_region 1 with(fail)
  rw[<-J.out];go_wp2_with fail
  go_at_call 76;refine I.out.mono ?_;rintro e1 V⟨rfl,g⟩;have d:=zh (j.out.trans (g.mono j.out.size));have G:=R.out.below g (zr _);clear g N O M L;obtain⟨N,O,M,L⟩:=yc4 G;have D:=zh (m.out V d.out);clear G m;have f:(zdN T)=(if 16384<T.length then([],3) else(T,0)):=rfl;obtain⟨S,hS⟩:∃S,bstr T=S:=⟨_,rfl⟩;have U:S.size=T.length:=by rw[<-hS,zaC]
  unfold TxtE at D;rw[hS] at D;have Z:=zh hS;by_cases E:16384<T.length
  ·rw[yP E] at f;have Q:(S.size:Int)>16384:=by omega
   have A:=zh f;clear f hS U E;go_wp2_with fail
   go_at_call 77;refine D.out.mono ?_;rintro X w2⟨rfl,i⟩;have y:=zh (d.out.trans (i.mono d.out.size));clear i D N O M L;go_wp2_with fail
   exact yE (v:=.tuple #[.string { data:=#[] },.int .i64 3]) (by simp[results,Tryz.results45,go_sem]) rfl ⟨by rw[A.out];rfl,y.out⟩
  ·rw[yN E] at f;have Q:¬(S.size:Int)>16384:=by omega
   have A:=zh f;clear f hS U E;go_wp2_with fail
   go_at_call 77;refine D.out.mono ?_;rintro X w2⟨rfl,i⟩;have y:=zh (d.out.trans (i.mono d.out.size));clear i D N O M L;go_wp2_with fail
   exact yE (v:=.tuple #[.string S,.int .i64 0]) (by simp[results,Tryz.results45,go_sem]) rfl ⟨by rw[A.out,Z.out],y.out⟩
end Go.Proofs.YtoaojdobjinhfaaGreatDoor
