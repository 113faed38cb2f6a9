/- The reference's printer: one, walked case by case. Printed by gen_rlines.py. -/
import Derived.Test.YtoaojdobjinhfaaGreatDoorRWrDPz
set_option linter.unusedSimpArgs false
set_option linter.unusedVariables false
set_option maxRecDepth 100000
set_option maxHeartbeats 2000000
namespace Go.Proofs.YtoaojdobjinhfaaGreatDoor
open Go.RowKit

def OnR (B d : Nat) (s : St) : Prop := ∀ (op n : Int) (name : List UInt8) (es : List Ex) (body els : List St) (ve vb vl : Value) (tabs : List UInt8) (w : World), s = .mk op n name es body els -> B <= w.heap.size -> EsL w B es ve -> SsL w B body vb -> SsL w B els vl -> tabs.length + d <= 100 -> (oneW tabs s).length <= 1000000000000000 -> Calls Tryz.prog 119 #[.agg #[.int .u8 op, .int .i64 n, .string (bstr name), ve, vb, vl], .string (bstr tabs)] w (TxtE (oneW tabs s) w)
def LnR (B d : Nat) (l : List St) : Prop := ∀ (v : Value) (tabs : List UInt8) (w : World), B <= w.heap.size -> SsL w B l v -> tabs.length + d <= 100 -> (zaM tabs l).length <= 1000000000000000 -> Calls Tryz.prog 74 #[v, .string (bstr tabs)] w (TxtE (zaM tabs l) w)
theorem ro_stop{w:World}{B d:Nat}{tabs:List UInt8}  {O vb P:Value}(H:EsL w B [] O)(l:SsL w B [] vb)(g:SsL w B [] P)(A:B<=w.heap.size)(ht:tabs.length+(d+1)<=100) :
  Calls Tryz.prog 119 #[.agg #[.int .u8 6,.int .i64 0,.string (bstr []),O,vb,P],.string (bstr tabs)] w (TxtE ([115,116,111,112,59]) w):=by
 obtain⟨N,K,rfl,-,-⟩:=H.form;obtain⟨J,I,rfl,-,-⟩:=l.form;obtain⟨M,L,rfl,-,-⟩:=g.form;obtain⟨m,u,f,z⟩:∃m,m=w.alloc (.cells #[.int .u8 6,.int .i64 0,.string (bstr []),.slice N 0 K,.slice J 0 I,.slice M 0 L] 56)/\Below w.heap.size w m/\OwnV m w.heap.size 56 [.int .u8 6,.int .i64 0,.string (bstr []),.slice N 0 K,.slice J 0 I,.slice M 0 L]:=⟨_,rfl,(yR _ _).alloc (zr _) _,OwnV.new _ _ _⟩;obtain⟨Q,j⟩:∃X:List UInt8,[115,116,111,112,59]=X:=⟨_,rfl⟩;rw[j];have D:=zh j;clear j;have U:B<=m.heap.size:=yT A f.size;have G:=H.low (f.mono A);have q:=l.low (f.mono A);have y:=g.low (f.mono A);obtain⟨R,E⟩:∃S,bstr tabs=S:=⟨_,rfl⟩;have V:R.size<=100:=by rw[<-E,zaC];omega
 have T:Hid (bstr Q={ data:=#[115,116,111,112,59] }):=zh (by rw[<-D.out];rfl);have F:=zh u;have C:=zh f;have W:=z.cell (i:=0) rfl;clear u z f H l g G q y ht ;go_enter Tryz.func119,Tryz.ntmps119
 go_upto_region 1 with(fail)
 rw[<-F.out];go_wp2_with fail
 exact yE (v:=.string ({ data:=#[115,116,111,112,59] })) (by simp[results,Tryz.results119,go_sem]) rfl ⟨by rw[T.out],C.out⟩
theorem ro_fail{w:World}{B d:Nat}{tabs:List UInt8}  {O vb P:Value}(H:EsL w B [] O)(l:SsL w B [] vb)(g:SsL w B [] P)(A:B<=w.heap.size)(ht:tabs.length+(d+1)<=100) :
  Calls Tryz.prog 119 #[.agg #[.int .u8 7,.int .i64 0,.string (bstr []),O,vb,P],.string (bstr tabs)] w (TxtE ([102,97,105,108,59]) w):=by
 obtain⟨N,K,rfl,-,-⟩:=H.form;obtain⟨J,I,rfl,-,-⟩:=l.form;obtain⟨M,L,rfl,-,-⟩:=g.form;obtain⟨m,u,f,z⟩:∃m,m=w.alloc (.cells #[.int .u8 7,.int .i64 0,.string (bstr []),.slice N 0 K,.slice J 0 I,.slice M 0 L] 56)/\Below w.heap.size w m/\OwnV m w.heap.size 56 [.int .u8 7,.int .i64 0,.string (bstr []),.slice N 0 K,.slice J 0 I,.slice M 0 L]:=⟨_,rfl,(yR _ _).alloc (zr _) _,OwnV.new _ _ _⟩;obtain⟨Q,j⟩:∃X:List UInt8,[102,97,105,108,59]=X:=⟨_,rfl⟩;rw[j];have D:=zh j;clear j;have U:B<=m.heap.size:=yT A f.size;have G:=H.low (f.mono A);have q:=l.low (f.mono A);have y:=g.low (f.mono A);obtain⟨R,E⟩:∃S,bstr tabs=S:=⟨_,rfl⟩;have V:R.size<=100:=by rw[<-E,zaC];omega
 have T:Hid (bstr Q={ data:=#[102,97,105,108,59] }):=zh (by rw[<-D.out];rfl);have F:=zh u;have C:=zh f;have W:=z.cell (i:=0) rfl;clear u z f H l g G q y ht ;go_enter Tryz.func119,Tryz.ntmps119
 go_upto_region 1 with(fail)
 rw[<-F.out];go_wp2_with fail
 exact yE (v:=.string ({ data:=#[102,97,105,108,59] })) (by simp[results,Tryz.results119,go_sem]) rfl ⟨by rw[T.out],C.out⟩
theorem ro_let{w:World}{B d:Nat}{tabs:List UInt8}{name:List UInt8}{y:Ex}(hn:name.length<=24)(h0:Shp 40 y){ve vb vl:Value}(hE:EsL w B [y] ve)(E:SsL w B [] vb)(C:SsL w B [] vl)(Q:B<=w.heap.size)(ht:tabs.length+(d+1)<=100) :
  Calls Tryz.prog 119 #[.agg #[.int .u8 1,.int .i64 0,.string (bstr name),ve,vb,vl],.string (bstr tabs)] w (TxtE ([108,101,116,32]++name++[32,61,32]++zab y++[59]) w):=by
 obtain⟨ea,ec,rfl,-,-⟩:=hE.form;obtain⟨ba,bc,rfl,-,-⟩:=E.form;obtain⟨la,lc,rfl,-,-⟩:=C.form;obtain⟨u,F,j,l⟩:∃u,u=w.alloc (.cells #[.int .u8 1,.int .i64 0,.string (bstr name),.slice ea 1 ec,.slice ba 0 bc,.slice la 0 lc] 56)/\Below w.heap.size w u/\OwnV u w.heap.size 56 [.int .u8 1,.int .i64 0,.string (bstr name),.slice ea 1 ec,.slice ba 0 bc,.slice la 0 lc]:=⟨_,rfl,(yR _ _).alloc (zr _) _,OwnV.new _ _ _⟩;obtain⟨TX,D⟩:∃X:List UInt8,[108,101,116,32]++name++[32,61,32]++zab y++[59]=X:=⟨_,rfl⟩;rw[D];have aa:=zh D;clear D;have L:B<=u.heap.size:=yT Q j.size;have N:=hE.low (j.mono Q);have J:=E.low (j.mono Q);have M:=C.low (j.mono Q);obtain⟨TB,K⟩:∃S,bstr tabs=S:=⟨_,rfl⟩;have am:TB.size<=100:=by rw[<-K,zaC];omega
 obtain⟨b,af,z,R,nm0,A,G,O,rfl,-,-,T,Y,c1,U,V,H⟩:=N.at (k:=0) (by simp);cases T;obtain⟨P,q⟩:∃S,bstr (zab (.mk z R nm0 A))=S:=⟨_,rfl⟩;have ae:P.size<=1000000000000010:=by rw[<-q,zaC];have:=zaE h0 (zr _) 1;rw[zaL] at this;omega
 have ac:Hid (∀W,Below u.heap.size u W->Calls Tryz.prog 77 #[.agg #[.int .u8 z,.int .i64 R,.string (bstr nm0),.slice G A.length O]] W fun e w'=>e=.returned (.string P)/\Below W.heap.size W w'):=zh (fun W hb=>by rw[<-q];exact rwrite_shp h0 (zr _) z R nm0 A _ W rfl (yT L hb.size) (H.low (hb.mono L)));simp only[Nat.zero_mul,Nat.add_zero,Nat.one_mul] at Y c1 U V;obtain⟨SN,m⟩:∃S,bstr name=S:=⟨_,rfl⟩;have ao:SN.size<=24:=by rw[<-m,zaC];exact hn
 have HT:Hid (bstr TX=((({ data:=#[108,101,116,32] }++SN)++{ data:=#[32,61,32] })++P)++{ data:=#[59] }):=zh (by
  rw[<-aa.out,<-q,<-m,show({ data:=#[108,101,116,32] }:ByteArray)=bstr [108,101,116,32] from rfl,show({ data:=#[32,61,32] }:ByteArray)=bstr [32,61,32] from rfl,show({ data:=#[59] }:ByteArray)=bstr [59] from rfl]
  simp[zax,zaZ])
 rw[m] at l F ⊢;have ad:=zh F;have I:=zh j;have x0:=l.cell (i:=0) rfl;have x2:=l.cell (i:=2) rfl;have x3:=l.cell (i:=3) rfl;clear F l j hE E C N J M ht q m H h0 hn K;go_enter Tryz.func119,Tryz.ntmps119
 go_upto_region 1 with(fail)
 rw[<-ad.out];go_wp2_with fail
 refine zac (fun w'=>Below u.heap.size u w') (by kernel_rfl) (by kernel_rfl) ((yR _ _).drew) ?_
 repeat
  try simp only[Act.put,zs1,zs3,zs2]
  apply stepsSeq.cons
  ·intro w' f;have g:=zh f;have ai:=Below.keep f x2;have aj:=Below.keep f x3;have an:=Below.keep f Y;have ak:=Below.keep f c1;have ah:=Below.keep f U;have ag:=Below.keep f V;simp only[Act.put,zs1,zs3,zs2];go_wp2_with ((go_at_call_of 77 (Value.agg #[Value.int IntKind.u8 z,Value.int IntKind.i64 R,Value.string (bstr nm0),Value.slice G A.length O]);refine(ac.out _ g.out).mono ?_;rintro e2 w2⟨rfl,Z⟩))
   first|exact⟨rfl,g.out⟩|exact⟨rfl,g.out.trans (Z.mono g.out.size)⟩
 try simp only[Act.put,zs1,zs3,zs2]
 refine stepsSeq.nil ?_;intro w' f;have ab:=zh (I.out.trans (f.mono I.out.size));clear f x0 x2 x3 Y c1 U V;go_wp2_with fail
 exact yE (v:=.string (((({ data:=#[108,101,116,32] }++SN)++{ data:=#[32,61,32] })++P)++{ data:=#[59] })) (by simp[results,Tryz.results119,go_sem]) rfl ⟨by rw[HT.out],ab.out⟩
theorem ro_set{w:World}{B d:Nat}{tabs:List UInt8}{name:List UInt8}{y:Ex}(hn:name.length<=24)(h0:Shp 40 y){ve vb vl:Value}(hE:EsL w B [y] ve)(E:SsL w B [] vb)(C:SsL w B [] vl)(Q:B<=w.heap.size)(ht:tabs.length+(d+1)<=100) :
  Calls Tryz.prog 119 #[.agg #[.int .u8 2,.int .i64 0,.string (bstr name),ve,vb,vl],.string (bstr tabs)] w (TxtE (name++[32,61,32]++zab y++[59]) w):=by
 obtain⟨ea,ec,rfl,-,-⟩:=hE.form;obtain⟨ba,bc,rfl,-,-⟩:=E.form;obtain⟨la,lc,rfl,-,-⟩:=C.form;obtain⟨u,F,j,l⟩:∃u,u=w.alloc (.cells #[.int .u8 2,.int .i64 0,.string (bstr name),.slice ea 1 ec,.slice ba 0 bc,.slice la 0 lc] 56)/\Below w.heap.size w u/\OwnV u w.heap.size 56 [.int .u8 2,.int .i64 0,.string (bstr name),.slice ea 1 ec,.slice ba 0 bc,.slice la 0 lc]:=⟨_,rfl,(yR _ _).alloc (zr _) _,OwnV.new _ _ _⟩;obtain⟨TX,D⟩:∃X:List UInt8,name++[32,61,32]++zab y++[59]=X:=⟨_,rfl⟩;rw[D];have aa:=zh D;clear D;have L:B<=u.heap.size:=yT Q j.size;have N:=hE.low (j.mono Q);have J:=E.low (j.mono Q);have M:=C.low (j.mono Q);obtain⟨TB,K⟩:∃S,bstr tabs=S:=⟨_,rfl⟩;have am:TB.size<=100:=by rw[<-K,zaC];omega
 obtain⟨b,af,z,R,nm0,A,G,O,rfl,-,-,T,Y,c1,U,V,H⟩:=N.at (k:=0) (by simp);cases T;obtain⟨P,q⟩:∃S,bstr (zab (.mk z R nm0 A))=S:=⟨_,rfl⟩;have ae:P.size<=1000000000000010:=by rw[<-q,zaC];have:=zaE h0 (zr _) 1;rw[zaL] at this;omega
 have ac:Hid (∀W,Below u.heap.size u W->Calls Tryz.prog 77 #[.agg #[.int .u8 z,.int .i64 R,.string (bstr nm0),.slice G A.length O]] W fun e w'=>e=.returned (.string P)/\Below W.heap.size W w'):=zh (fun W hb=>by rw[<-q];exact rwrite_shp h0 (zr _) z R nm0 A _ W rfl (yT L hb.size) (H.low (hb.mono L)));simp only[Nat.zero_mul,Nat.add_zero,Nat.one_mul] at Y c1 U V;obtain⟨SN,m⟩:∃S,bstr name=S:=⟨_,rfl⟩;have ao:SN.size<=24:=by rw[<-m,zaC];exact hn
 have HT:Hid (bstr TX=((SN++{ data:=#[32,61,32] })++P)++{ data:=#[59] }):=zh (by
  rw[<-aa.out,<-q,<-m,show({ data:=#[32,61,32] }:ByteArray)=bstr [32,61,32] from rfl,show({ data:=#[59] }:ByteArray)=bstr [59] from rfl]
  simp[zax,zaZ])
 rw[m] at l F ⊢;have ad:=zh F;have I:=zh j;have x0:=l.cell (i:=0) rfl;have x2:=l.cell (i:=2) rfl;have x3:=l.cell (i:=3) rfl;clear F l j hE E C N J M ht q m H h0 hn K;go_enter Tryz.func119,Tryz.ntmps119
 go_upto_region 1 with(fail)
 rw[<-ad.out];go_wp2_with fail
 refine zac (fun w'=>Below u.heap.size u w') (by kernel_rfl) (by kernel_rfl) ((yR _ _).drew) ?_
 repeat
  try simp only[Act.put,zs1,zs3,zs2]
  apply stepsSeq.cons
  ·intro w' f;have g:=zh f;have ai:=Below.keep f x2;have aj:=Below.keep f x3;have an:=Below.keep f Y;have ak:=Below.keep f c1;have ah:=Below.keep f U;have ag:=Below.keep f V;simp only[Act.put,zs1,zs3,zs2];go_wp2_with ((go_at_call_of 77 (Value.agg #[Value.int IntKind.u8 z,Value.int IntKind.i64 R,Value.string (bstr nm0),Value.slice G A.length O]);refine(ac.out _ g.out).mono ?_;rintro e2 w2⟨rfl,Z⟩))
   first|exact⟨rfl,g.out⟩|exact⟨rfl,g.out.trans (Z.mono g.out.size)⟩
 try simp only[Act.put,zs1,zs3,zs2]
 refine stepsSeq.nil ?_;intro w' f;have ab:=zh (I.out.trans (f.mono I.out.size));clear f x0 x2 x3 Y c1 U V;go_wp2_with fail
 exact yE (v:=.string (((SN++{ data:=#[32,61,32] })++P)++{ data:=#[59] })) (by simp[results,Tryz.results119,go_sem]) rfl ⟨by rw[HT.out],ab.out⟩
theorem ro_put{w:World}{B d:Nat}{tabs:List UInt8}{M:Nat}{y z:Ex}(aE:M<10)(h0:Shp 40 y)(h1:Shp 40 z){ve vb vl:Value}(hE:EsL w B [y,z] ve)(ac:SsL w B [] vb)(ab:SsL w B [] vl)(hB:B<=w.heap.size)(ht:tabs.length+(d+1)<=100) :
  Calls Tryz.prog 119 #[.agg #[.int .u8 3,.int .i64 ((M:Int)+1),.string (bstr []),ve,vb,vl],.string (bstr tabs)] w (TxtE (kindWords.getD M []++[91]++zab y++[93,32,61,32]++zab z++[59]) w):=by
 obtain⟨ea,ec,rfl,-,-⟩:=hE.form;obtain⟨ba,bc,rfl,-,-⟩:=ac.form;obtain⟨la,lc,rfl,-,-⟩:=ab.form;obtain⟨g,ai,q,O⟩:∃g,g=w.alloc (.cells #[.int .u8 3,.int .i64 ((M:Int)+1),.string (bstr []),.slice ea 2 ec,.slice ba 0 bc,.slice la 0 lc] 56)/\Below w.heap.size w g/\OwnV g w.heap.size 56 [.int .u8 3,.int .i64 ((M:Int)+1),.string (bstr []),.slice ea 2 ec,.slice ba 0 bc,.slice la 0 lc]:=⟨_,rfl,(yR _ _).alloc (zr _) _,OwnV.new _ _ _⟩;obtain⟨TX,ad⟩:∃X:List UInt8,kindWords.getD M []++[91]++zab y++[93,32,61,32]++zab z++[59]=X:=⟨_,rfl⟩;rw[ad];have aw:=zh ad;clear ad;have L:B<=g.heap.size:=yT hB q.size;have U:=hE.low (q.mono hB);have aj:=ac.low (q.mono hB);have ae:=ab.low (q.mono hB);obtain⟨TB,ak⟩:∃S,bstr tabs=S:=⟨_,rfl⟩;have aH:TB.size<=100:=by rw[<-ak,zaC];omega
 obtain⟨b,f,A,n0,nm0,E,aa,V,rfl,-,-,an,c0,c1,c2,c3,ag⟩:=U.at (k:=0) (by simp);cases an;obtain⟨G,H⟩:∃S,bstr (zab (.mk A n0 nm0 E))=S:=⟨_,rfl⟩;have az:G.size<=1000000000000010:=by rw[<-H,zaC];have:=zaE h0 (zr _) 1;rw[zaL] at this;omega
 have au:Hid (∀W,Below g.heap.size g W->Calls Tryz.prog 77 #[.agg #[.int .u8 A,.int .i64 n0,.string (bstr nm0),.slice aa E.length V]] W fun e w'=>e=.returned (.string G)/\Below W.heap.size W w'):=zh (fun W hb=>by rw[<-H];exact rwrite_shp h0 (zr _) A n0 nm0 E _ W rfl (yT L hb.size) (ag.low (hb.mono L)));obtain⟨b1,aA,D,n1,nm1,C,T,Y,av,-,-,aq,d0,d1,d2,d3,ah⟩:=U.at (k:=1) (by simp);cases av;cases aq;obtain⟨Q,I⟩:∃S,bstr (zab (.mk D n1 nm1 C))=S:=⟨_,rfl⟩;have aC:Q.size<=1000000000000010:=by rw[<-I,zaC];have:=zaE h1 (zr _) 1;rw[zaL] at this;omega
 have ap:Hid (∀W,Below g.heap.size g W->Calls Tryz.prog 77 #[.agg #[.int .u8 D,.int .i64 n1,.string (bstr nm1),.slice T C.length Y]] W fun e w'=>e=.returned (.string Q)/\Below W.heap.size W w'):=zh (fun W hb=>by rw[<-I];exact rwrite_shp h1 (zr _) D n1 nm1 C _ W rfl (yT L hb.size) (ah.low (hb.mono L)));simp only[Nat.zero_mul,Nat.add_zero,Nat.one_mul] at c0 c1 c2 c3 d0 d1 d2 d3;obtain⟨u,J⟩:∃K,bstr (kindWords.getD M [])=K:=⟨_,rfl⟩
 have aI:u.size<=100:=by
  rw[<-J,zaC];have:=zd7 (n:=(M:Int)+1) (by omega) (by omega);rw[show((M:Int)+1-1).toNat=M by omega] at this;omega
 have HT:Hid (bstr TX=(((((u++{ data:=#[91] })++G)++{ data:=#[93,32,61,32] })++Q)++{ data:=#[59] })):=zh (by
  rw[<-aw.out,<-H,<-I,<-J,show({ data:=#[91] }:ByteArray)=bstr [91] from rfl,show({ data:=#[93,32,61,32] }:ByteArray)=bstr [93,32,61,32] from rfl,show({ data:=#[59] }:ByteArray)=bstr [59] from rfl]
  simp[zax,zaZ])
 have ar:=zh J;have aD:(0:Int)<=(M:Int):=by omega
 have aG:(M:Int)<10:=by omega
 have aF:¬(M:Int)<0:=by omega
 have hw:IntKind.i64.wrap (M:Int)=M:=by simp[IntKind.wrap,IntKind.bits,IntKind.signed];omega
 have ay:=zh ai;have am:=zh q;have x0:=O.cell (i:=0) rfl;have x1:=O.cell (i:=1) rfl;have x3:=O.cell (i:=3) rfl;clear ai O q hE ac ab U aj ae ht H I J ag ah h0 h1 ak;go_enter Tryz.func119,Tryz.ntmps119
 go_upto_region 1 with(fail)
 rw[<-ay.out];go_wp2_with fail
 have Hc:Hid (∀w',Below g.heap.size g w'->(w'.cell? ⟨w.heap.size,1,none⟩=some (.int .i64 ((M:Int)+1))/\w'.cell? ⟨w.heap.size,3,none⟩=some (.slice (some ⟨b,f,none⟩) 2 ec))/\(w'.cell? ⟨b,f,none⟩=some (.int .u8 A)/\w'.cell? ⟨b,f+1,none⟩=some (.int .i64 n0)/\w'.cell? ⟨b,f+2,none⟩=some (.string (bstr nm0))/\w'.cell? ⟨b,f+3,none⟩=some (.slice aa E.length V))/\w'.cell? ⟨b,f+4,none⟩=some (.int .u8 D)/\w'.cell? ⟨b,f+4+1,none⟩=some (.int .i64 n1)/\w'.cell? ⟨b,f+4+2,none⟩=some (.string (bstr nm1))/\w'.cell? ⟨b,f+4+3,none⟩=some (.slice T C.length Y)):=zh (fun w' hb=>⟨⟨Below.keep hb x1,Below.keep hb x3⟩,⟨Below.keep hb c0,Below.keep hb c1,Below.keep hb c2,Below.keep hb c3⟩,Below.keep hb d0,Below.keep hb d1,Below.keep hb d2,Below.keep hb d3⟩);refine wp_region_rel [none,some (.pointer (some ⟨w.heap.size,1,none⟩)),some (.int .i64 ((M:Int)+1)),some (.int .i64 (M:Int)),none,some (.string u),some (.string (u++{ data:=#[91] })),some (.pointer (some ⟨w.heap.size,3,none⟩)),some (.slice (some ⟨b,f,none⟩) 2 ec),some (.pointer (some ⟨b,f,none⟩)),some (.agg #[.int .u8 A,.int .i64 n0,.string (bstr nm0),.slice aa E.length V]),some (.string G),some (.string ((u++{ data:=#[91] })++G)),some (.string (((u++{ data:=#[91] })++G)++{ data:=#[93,32,61,32] })),some (.pointer (some ⟨w.heap.size,3,none⟩)),some (.slice (some ⟨b,f,none⟩) 2 ec),some (.pointer (some ⟨b,f+4,none⟩)),some (.agg #[.int .u8 D,.int .i64 n1,.string (bstr nm1),.slice T C.length Y]),some (.string Q),some (.string ((((u++{ data:=#[91] })++G)++{ data:=#[93,32,61,32] })++Q)),some (.string (((((u++{ data:=#[91] })++G)++{ data:=#[93,32,61,32] })++Q)++{ data:=#[59] })),some (.string (((((u++{ data:=#[91] })++G)++{ data:=#[93,32,61,32] })++Q)++{ data:=#[59] }))] (rwComp M u) (by kernel_rfl) (by kernel_rfl) rfl ?hst ?hconst ?hs ?hf
 case hst =>
  rintro j v w w'⟨h1,h2⟩ hb;refine⟨fun e=>?_,fun e=>?_⟩
  ·obtain⟨P,m,l,e1,e2⟩:=h1 e;exact⟨P,m,l,e1,Below.keep hb e2⟩
  ·obtain⟨P,ko,e1,e2⟩:=h2 e;exact⟨P,ko,e1,Below.keep hb e2⟩
 case hconst =>
  refine fun j v w h=>⟨fun e=>?_,fun e=>?_⟩
  all_goals
   subst e;simp at h
 case hf =>
  intro X w5 hb _;simp only[zfb,zos,zob,zoc,zot,Nat.reduceAdd,Act.put,zs1,zs3,zs2];have ao:Hid (Below w.heap.size w w5):=zh (am.out.trans ((show Below g.heap.size g w5 from⟨hb.os,hb.tape,hb.output,hb.size,hb.block⟩).mono am.out.size));clear hb x0 x1 x3 c0 c1 c2 c3 d0 d1 d2 d3;go_wp2_with fail
  exact yE (v:=.string ((((((u++{ data:=#[91] })++G)++{ data:=#[93,32,61,32] })++Q)++{ data:=#[59] }))) (by simp[results,Tryz.results119,go_sem]) rfl ⟨by rw[HT.out],ao.out⟩
 case hs =>
  simp only[zfb,zos,zob,zoc,zot,Nat.reduceAdd,Act.put,zs1,zs3,zs2];refine stepsRel.cons ?_ (stepsRel.cons ?_ (stepsRel.cons ?_ (stepsRel.cons ?_ (stepsRel.cons ?_ (stepsRel.cons ?_ (stepsRel.cons ?_ (stepsRel.cons ?_ (stepsRel.cons ?_ (stepsRel.cons ?_ (stepsRel.cons ?_ (stepsRel.cons ?_ (stepsRel.cons ?_ (stepsRel.cons ?_ (stepsRel.cons ?_ (stepsRel.cons ?_ (stepsRel.cons ?_ (stepsRel.cons ?_ (stepsRel.cons ?_ (stepsRel.cons ?_ (stepsRel.cons ?_ (stepsRel.cons ?_ (stepsRel.nil))))))))))))))))))))))
  all_goals
   intro X w5 hb hp;have R:Below g.heap.size g w5:=⟨hb.os,hb.tape,hb.output,hb.size,hb.block⟩;obtain⟨⟨x1,x3⟩,⟨c0,c1,c2,c3⟩,d0,d1,d2,d3⟩:=Hc.out _ R
  ·clear hp hb;go_wp2_with fail
   go_at_call 51;refine(zlN _).mono ?_;rintro e3 w3⟨v3,rfl,af,ax⟩;obtain⟨P,m,l,rfl,kc⟩:=rkinds_cell (N:=M+1) af (by omega) (by omega);rw[show M+1-1=M from rfl,ar.out] at kc;clear af;go_wp2_with fail
   refine⟨⟨_,rfl,?_⟩,ax⟩;exact(show rwComp M u 0 _ _ from⟨fun _=>⟨P,m,l,rfl,kc⟩,fun e=>by cases e⟩)
  iterate 3 (focus(clear hp hb;go_wp2_with fail;exact⟨⟨_,rfl,rfl⟩,yR _ _⟩))
  ·obtain⟨P,m,l,e,kc⟩:=(hp 0 (by kernel_rfl)).1 rfl;rw[e];clear hp hb e;go_wp2_with fail
   refine⟨⟨_,rfl,?_⟩,yR _ _⟩;exact(show rwComp M u 4 _ _ from⟨fun e=>(by cases e),fun _=>⟨P,_,rfl,kc⟩⟩)
  ·obtain⟨P,ko,e,kc⟩:=(hp 4 (by kernel_rfl)).2 rfl;rw[e];clear hp hb e;go_wp2_with fail
   exact⟨⟨_,rfl,rfl⟩,yR _ _⟩
  iterate 5 (focus(clear hp hb;go_wp2_with fail;exact⟨⟨_,rfl,rfl⟩,yR _ _⟩))
  ·clear hp hb;go_wp2_with fail
   go_at_call 77;refine(au.out _ R).mono ?_;rintro e4 w4⟨rfl,F⟩;have Z:=zh F;clear F;go_wp2_with fail
   exact⟨⟨_,rfl,rfl⟩,Z.out⟩
  iterate 6 (focus(clear hp hb;go_wp2_with fail;exact⟨⟨_,rfl,rfl⟩,yR _ _⟩))
  ·clear hp hb;go_wp2_with fail
   go_at_call 77;refine(ap.out _ R).mono ?_;rintro e4 w4⟨rfl,F⟩;have Z:=zh F;clear F;go_wp2_with fail
   exact⟨⟨_,rfl,rfl⟩,Z.out⟩
  iterate 3 (focus(clear hp hb;go_wp2_with fail;exact⟨⟨_,rfl,rfl⟩,yR _ _⟩))
theorem ro_while{w:World}{B d:Nat}{tabs:List UInt8}{y:Ex}{body:List St}(h0:Shp 40 y)(J:LnR B d body)(H:(zaM (tabs++[9]) body).length<=1000000000000000)  {ve vb vl:Value}(hE:EsL w B [y] ve)(I:SsL w B body vb)(F:SsL w B [] vl)(V:B<=w.heap.size)(ht:tabs.length+(d+1)<=100) :
  Calls Tryz.prog 119 #[.agg #[.int .u8 5,.int .i64 0,.string (bstr []),ve,vb,vl],.string (bstr tabs)] w (TxtE ([119,104,105,108,101,32]++([40]++zab y++[41,32,123,10]++zaM (tabs++[9]) body++tabs++[125])) w):=by
 obtain⟨ea,ec,rfl,-,-⟩:=hE.form;obtain⟨ba,bc,rfl,-,-⟩:=I.form;obtain⟨la,lc,rfl,-,-⟩:=F.form;obtain⟨l,P,j,D⟩:∃l,l=w.alloc (.cells #[.int .u8 5,.int .i64 0,.string (bstr []),.slice ea 1 ec,.slice ba body.length bc,.slice la 0 lc] 56)/\Below w.heap.size w l/\OwnV l w.heap.size 56 [.int .u8 5,.int .i64 0,.string (bstr []),.slice ea 1 ec,.slice ba body.length bc,.slice la 0 lc]:=⟨_,rfl,(yR _ _).alloc (zr _) _,OwnV.new _ _ _⟩;obtain⟨TX,G⟩:∃X:List UInt8,[119,104,105,108,101,32]++([40]++zab y++[41,32,123,10]++zaM (tabs++[9]) body++tabs++[125])=X:=⟨_,rfl⟩;rw[G];have ac:=zh G;clear G;have C:B<=l.heap.size:=yT V j.size;have R:=hE.low (j.mono V);have E:=I.low (j.mono V);have Q:=F.low (j.mono V);obtain⟨O,m⟩:∃S,bstr tabs=S:=⟨_,rfl⟩;have aq:O.size<=100:=by rw[<-m,zaC];omega
 obtain⟨b,ai,u,Z,nm0,A,K,T,rfl,-,-,aa,c0,c1,c2,c3,L⟩:=R.at (k:=0) (by simp);cases aa;obtain⟨U,q⟩:∃S,bstr (zab (.mk u Z nm0 A))=S:=⟨_,rfl⟩;have ah:U.size<=1000000000000010:=by rw[<-q,zaC];have:=zaE h0 (zr _) 1;rw[zaL] at this;omega
 have ad:Hid (∀W,Below l.heap.size l W->Calls Tryz.prog 77 #[.agg #[.int .u8 u,.int .i64 Z,.string (bstr nm0),.slice K A.length T]] W fun e w'=>e=.returned (.string U)/\Below W.heap.size W w'):=zh (fun W hb=>by rw[<-q];exact rwrite_shp h0 (zr _) u Z nm0 A _ W rfl (yT C hb.size) (L.low (hb.mono C)));simp only[Nat.zero_mul,Nat.add_zero,Nat.one_mul] at c0 c1 c2 c3;obtain⟨Y,z⟩:∃S,bstr (zaM (tabs++[9]) body)=S:=⟨_,rfl⟩;have ag:Y.size<=1000000000000000:=by rw[<-z,zaC];exact H
 have ab:Hid (∀W,Below l.heap.size l W->Calls Tryz.prog 74 #[.slice ba body.length bc,.string (O++{ data:=#[9] })] W fun e w'=>e=.returned (.string Y)/\Below W.heap.size W w'):=zh (fun W hb=>by
  rw[<-z,show O++{ data:=#[9] } = bstr (tabs++[9]) by rw[<-zax,<-m];rfl]
  exact J _ (tabs++[9]) W (yT C hb.size) (E.low (hb.mono C)) (by simp;omega) H)
 have HT:Hid (bstr TX={ data:=#[119,104,105,108,101,32] }++((((({ data:=#[40] }++U)++{ data:=#[41,32,123,10] })++Y)++O)++{ data:=#[125] })):=zh (by
  rw[<-ac.out,<-q,<-z,<-m,show({ data:=#[40] }:ByteArray)=bstr [40] from rfl,show({ data:=#[41,32,123,10] }:ByteArray)=bstr [41,32,123,10] from rfl,show({ data:=#[125] }:ByteArray)=bstr [125] from rfl,show({ data:=#[119,104,105,108,101,32] }:ByteArray)=bstr [119,104,105,108,101,32] from rfl]
  simp[zax,zaZ])
 rw[m];have ae:=zh P;have M:=zh j;have x0:=D.cell (i:=0) rfl;have x3:=D.cell (i:=3) rfl;have x4:=D.cell (i:=4) rfl;clear P D j hE I F R E Q ht q z L h0 J H m ;go_enter Tryz.func119,Tryz.ntmps119
 go_upto_region 1 with(fail)
 rw[<-ae.out];go_wp2_with fail
 refine zac (fun w'=>Below l.heap.size l w') (by kernel_rfl) (by kernel_rfl) ((yR _ _).drew) ?_
 repeat
  try simp only[Act.put,zs1,zs3,zs2]
  apply stepsSeq.cons
  ·intro w' f;have g:=zh f;have ao:=Below.keep f x3;have an:=Below.keep f x4;have ar:=Below.keep f c0;have ap:=Below.keep f c1;have ak:=Below.keep f c2;have aj:=Below.keep f c3;simp only[Act.put,zs1,zs3,zs2];go_wp2_with ((first|(go_at_call_of 77 (Value.agg #[Value.int IntKind.u8 u,Value.int IntKind.i64 Z,Value.string (bstr nm0),Value.slice K A.length T]);refine(ad.out _ g.out).mono ?_;rintro e2 w2⟨rfl,N⟩)|(go_at_call 74;refine(ab.out _ g.out).mono ?_;rintro e2 w2⟨rfl,N⟩)))
   first|exact⟨rfl,g.out⟩|exact⟨rfl,g.out.trans (N.mono g.out.size)⟩
 try simp only[Act.put,zs1,zs3,zs2]
 refine stepsSeq.nil ?_;intro w' f;have af:=zh (M.out.trans (f.mono M.out.size));have am:=zh f;replace x0:=Below.keep f x0;clear f x3 x4 c0 c1 c2 c3;go_wp2_with fail
 exact yE (v:=.string ({ data:=#[119,104,105,108,101,32] }++((((({ data:=#[40] }++U)++{ data:=#[41,32,123,10] })++Y)++O)++{ data:=#[125] }))) (by simp[results,Tryz.results119,go_sem]) rfl ⟨by rw[HT.out],af.out⟩
theorem ro_none{w:World}{B d:Nat}{tabs:List UInt8}{y:Ex}{body:List St}(h0:Shp 40 y)(J:LnR B d body)(H:(zaM (tabs++[9]) body).length<=1000000000000000)  {ve vb vl:Value}(hE:EsL w B [y] ve)(I:SsL w B body vb)(F:SsL w B [] vl)(V:B<=w.heap.size)(ht:tabs.length+(d+1)<=100) :
  Calls Tryz.prog 119 #[.agg #[.int .u8 4,.int .i64 0,.string (bstr []),ve,vb,vl],.string (bstr tabs)] w (TxtE ([105,102,32]++([40]++zab y++[41,32,123,10]++zaM (tabs++[9]) body++tabs++[125])) w):=by
 obtain⟨ea,ec,rfl,-,-⟩:=hE.form;obtain⟨ba,bc,rfl,-,-⟩:=I.form;obtain⟨la,lc,rfl,-,-⟩:=F.form;obtain⟨l,Q,j,q⟩:∃l,l=w.alloc (.cells #[.int .u8 4,.int .i64 0,.string (bstr []),.slice ea 1 ec,.slice ba body.length bc,.slice la 0 lc] 56)/\Below w.heap.size w l/\OwnV l w.heap.size 56 [.int .u8 4,.int .i64 0,.string (bstr []),.slice ea 1 ec,.slice ba body.length bc,.slice la 0 lc]:=⟨_,rfl,(yR _ _).alloc (zr _) _,OwnV.new _ _ _⟩;obtain⟨TX,G⟩:∃X:List UInt8,[105,102,32]++([40]++zab y++[41,32,123,10]++zaM (tabs++[9]) body++tabs++[125])=X:=⟨_,rfl⟩;rw[G];have ac:=zh G;clear G;have D:B<=l.heap.size:=yT V j.size;have R:=hE.low (j.mono V);have E:=I.low (j.mono V);have P:=F.low (j.mono V);obtain⟨O,m⟩:∃S,bstr tabs=S:=⟨_,rfl⟩;have aq:O.size<=100:=by rw[<-m,zaC];omega
 obtain⟨b,ai,z,Z,nm0,C,K,T,rfl,-,-,aa,c0,c1,c2,c3,L⟩:=R.at (k:=0) (by simp);cases aa;obtain⟨U,u⟩:∃S,bstr (zab (.mk z Z nm0 C))=S:=⟨_,rfl⟩;have ah:U.size<=1000000000000010:=by rw[<-u,zaC];have:=zaE h0 (zr _) 1;rw[zaL] at this;omega
 have ad:Hid (∀W,Below l.heap.size l W->Calls Tryz.prog 77 #[.agg #[.int .u8 z,.int .i64 Z,.string (bstr nm0),.slice K C.length T]] W fun e w'=>e=.returned (.string U)/\Below W.heap.size W w'):=zh (fun W hb=>by rw[<-u];exact rwrite_shp h0 (zr _) z Z nm0 C _ W rfl (yT D hb.size) (L.low (hb.mono D)));simp only[Nat.zero_mul,Nat.add_zero,Nat.one_mul] at c0 c1 c2 c3;obtain⟨Y,A⟩:∃S,bstr (zaM (tabs++[9]) body)=S:=⟨_,rfl⟩;have ag:Y.size<=1000000000000000:=by rw[<-A,zaC];exact H
 have ab:Hid (∀W,Below l.heap.size l W->Calls Tryz.prog 74 #[.slice ba body.length bc,.string (O++{ data:=#[9] })] W fun e w'=>e=.returned (.string Y)/\Below W.heap.size W w'):=zh (fun W hb=>by
  rw[<-A,show O++{ data:=#[9] } = bstr (tabs++[9]) by rw[<-zax,<-m];rfl]
  exact J _ (tabs++[9]) W (yT D hb.size) (E.low (hb.mono D)) (by simp;omega) H)
 have HT:Hid (bstr TX={ data:=#[105,102,32] }++((((({ data:=#[40] }++U)++{ data:=#[41,32,123,10] })++Y)++O)++{ data:=#[125] })):=zh (by
  rw[<-ac.out,<-u,<-A,<-m,show({ data:=#[40] }:ByteArray)=bstr [40] from rfl,show({ data:=#[41,32,123,10] }:ByteArray)=bstr [41,32,123,10] from rfl,show({ data:=#[125] }:ByteArray)=bstr [125] from rfl,show({ data:=#[105,102,32] }:ByteArray)=bstr [105,102,32] from rfl]
  simp[zax,zaZ])
 rw[m];have ae:=zh Q;have M:=zh j;have x0:=q.cell (i:=0) rfl;have x3:=q.cell (i:=3) rfl;have x4:=q.cell (i:=4) rfl;have x5:=q.cell (i:=5) rfl;clear Q q j hE I F R E P ht u A L h0 J H m ;go_enter Tryz.func119,Tryz.ntmps119
 go_upto_region 1 with(fail)
 rw[<-ae.out];go_wp2_with fail
 refine zac (fun w'=>Below l.heap.size l w') (by kernel_rfl) (by kernel_rfl) ((yR _ _).drew) ?_
 repeat
  try simp only[Act.put,zs1,zs3,zs2]
  apply stepsSeq.cons
  ·intro w' f;have g:=zh f;have ao:=Below.keep f x3;have an:=Below.keep f x4;have ar:=Below.keep f c0;have ap:=Below.keep f c1;have ak:=Below.keep f c2;have aj:=Below.keep f c3;simp only[Act.put,zs1,zs3,zs2];go_wp2_with ((first|(go_at_call_of 77 (Value.agg #[Value.int IntKind.u8 z,Value.int IntKind.i64 Z,Value.string (bstr nm0),Value.slice K C.length T]);refine(ad.out _ g.out).mono ?_;rintro e2 w2⟨rfl,N⟩)|(go_at_call 74;refine(ab.out _ g.out).mono ?_;rintro e2 w2⟨rfl,N⟩)))
   first|exact⟨rfl,g.out⟩|exact⟨rfl,g.out.trans (N.mono g.out.size)⟩
 try simp only[Act.put,zs1,zs3,zs2]
 refine stepsSeq.nil ?_;intro w' f;have af:=zh (M.out.trans (f.mono M.out.size));have am:=zh f;replace x0:=Below.keep f x0;replace x5:=Below.keep f x5;clear f x3 x4 c0 c1 c2 c3;go_wp2_with fail
 exact yE (v:=.string ({ data:=#[105,102,32] }++((((({ data:=#[40] }++U)++{ data:=#[41,32,123,10] })++Y)++O)++{ data:=#[125] }))) (by simp[results,Tryz.results119,go_sem]) rfl ⟨by rw[HT.out],af.out⟩
theorem ro_elif{w:World}{B d:Nat}{tabs:List UInt8}{y:Ex}{body:List St}(h0:Shp 40 y)(ab:LnR B d body)(L:(zaM (tabs++[9]) body).length<=1000000000000000){z:St}(hz:opT z=4)(ah:OnR B d z)(J:(oneW tabs z).length<=1000000000000000)  {ve vb vl:Value}(hE:EsL w B [y] ve)(P:SsL w B body vb)(O:SsL w B [z] vl)(hB:B<=w.heap.size)(ht:tabs.length+(d+1)<=100) :
  Calls Tryz.prog 119 #[.agg #[.int .u8 4,.int .i64 0,.string (bstr []),ve,vb,vl],.string (bstr tabs)] w (TxtE ([105,102,32]++([40]++zab y++[41,32,123,10]++zaM (tabs++[9]) body++tabs++[125])++[32,101,108,115,101,32]++oneW tabs z) w):=by
 obtain⟨ea,ec,rfl,-,-⟩:=hE.form;obtain⟨ba,bc,rfl,-,-⟩:=P.form;obtain⟨la,lc,rfl,-,-⟩:=O.form;obtain⟨m,aa,l,u⟩:∃m,m=w.alloc (.cells #[.int .u8 4,.int .i64 0,.string (bstr []),.slice ea 1 ec,.slice ba body.length bc,.slice la 1 lc] 56)/\Below w.heap.size w m/\OwnV m w.heap.size 56 [.int .u8 4,.int .i64 0,.string (bstr []),.slice ea 1 ec,.slice ba body.length bc,.slice la 1 lc]:=⟨_,rfl,(yR _ _).alloc (zr _) _,OwnV.new _ _ _⟩;obtain⟨TX,Q⟩:∃X:List UInt8,[105,102,32]++([40]++zab y++[41,32,123,10]++zaM (tabs++[9]) body++tabs++[125])++[32,101,108,115,101,32]++oneW tabs z=X:=⟨_,rfl⟩;rw[Q];have av:=zh Q;clear Q;have j:B<=m.heap.size:=yT hB l.size;have T:=hE.low (l.mono hB);have H:=P.low (l.mono hB);have G:=O.low (l.mono hB);obtain⟨R,q⟩:∃S,bstr tabs=S:=⟨_,rfl⟩;have aI:R.size<=100:=by rw[<-q,zaC];omega
 obtain⟨b,aH,A,n0,nm0,E,ac,U,rfl,-,-,ak,c0,c1,c2,c3,Y⟩:=T.at (k:=0) (by simp);cases ak;obtain⟨S0,C⟩:∃S,bstr (zab (.mk A n0 nm0 E))=S:=⟨_,rfl⟩;have aD:S0.size<=1000000000000010:=by rw[<-C,zaC];have:=zaE h0 (zr _) 1;rw[zaL] at this;omega
 have ap:Hid (∀W,Below m.heap.size m W->Calls Tryz.prog 77 #[.agg #[.int .u8 A,.int .i64 n0,.string (bstr nm0),.slice ac E.length U]] W fun e w'=>e=.returned (.string S0)/\Below W.heap.size W w'):=zh (fun W hb=>by rw[<-C];exact rwrite_shp h0 (zr _) A n0 nm0 E _ W rfl (yT j hb.size) (Y.low (hb.mono j)));simp only[Nat.zero_mul,Nat.add_zero,Nat.one_mul] at c0 c1 c2 c3;obtain⟨SB,D⟩:∃S,bstr (zaM (tabs++[9]) body)=S:=⟨_,rfl⟩;have aC:SB.size<=1000000000000000:=by rw[<-D,zaC];exact L
 have aj:Hid (∀W,Below m.heap.size m W->Calls Tryz.prog 74 #[.slice ba body.length bc,.string (R++{ data:=#[9] })] W fun e w'=>e=.returned (.string SB)/\Below W.heap.size W w'):=zh (fun W hb=>by
  rw[<-D,show R++{ data:=#[9] } = bstr (tabs++[9]) by rw[<-zax,<-q];rfl]
  exact ab _ (tabs++[9]) W (yT j hb.size) (H.low (hb.mono j)) (by simp;omega) L)
 obtain⟨bz,oz,aq,n2,M,K,I,N,az,an,aA,am,al2,aw,rfl,-,-,au,f0,f1,f2,f3,f4,f5,ae,ad,V⟩:=G.at (k:=0) (by simp);cases au;simp only[Nat.zero_mul,Nat.add_zero] at f0 f1 f2 f3 f4 f5;obtain rfl:aq=4:=hz;obtain⟨SZ,F⟩:∃S,bstr (oneW tabs (.mk 4 n2 M K I N))=S:=⟨_,rfl⟩;have aJ:SZ.size<=1000000000000000:=by rw[<-F,zaC];exact J
 have ar:Hid (∀W,Below m.heap.size m W->Calls Tryz.prog 119 #[.agg #[.int .u8 4,.int .i64 n2,.string (bstr M),.slice az K.length an,.slice aA I.length am,.slice al2 N.length aw],.string R] W fun e w'=>e=.returned (.string SZ)/\Below W.heap.size W w'):=zh (fun W hb=>by
  rw[<-F,<-q]
  exact ah 4 n2 M K I N _ _ _ tabs W rfl (yT j hb.size) (ae.low (hb.mono j)) (ad.low (hb.mono j)) (V.low (hb.mono j)) (by omega) J)
 have HT:Hid (bstr TX=(({ data:=#[105,102,32] }++((((({ data:=#[40] }++S0)++{ data:=#[41,32,123,10] })++SB)++R)++{ data:=#[125] }))++{ data:=#[32,101,108,115,101,32] })++SZ):=zh (by
  rw[<-av.out,<-C,<-D,<-q,<-F,show({ data:=#[40] }:ByteArray)=bstr [40] from rfl,show({ data:=#[41,32,123,10] }:ByteArray)=bstr [41,32,123,10] from rfl,show({ data:=#[125] }:ByteArray)=bstr [125] from rfl,show({ data:=#[105,102,32] }:ByteArray)=bstr [105,102,32] from rfl,show({ data:=#[32,101,108,115,101,32] }:ByteArray)=bstr [32,101,108,115,101,32] from rfl]
  simp[zax,zaZ])
 rw[q];have ax:=zh aa;have af:=zh l;have x0:=u.cell (i:=0) rfl;have x3:=u.cell (i:=3) rfl;have x4:=u.cell (i:=4) rfl;have x5:=u.cell (i:=5) rfl;clear aa u l hE P O T H G ht C D Y h0 ab L q F ah J ae ad V;go_enter Tryz.func119,Tryz.ntmps119
 go_upto_region 1 with(fail)
 rw[<-ax.out];go_wp2_with fail
 refine zac (fun w'=>Below m.heap.size m w') (by kernel_rfl) (by kernel_rfl) ((yR _ _).drew) ?_
 repeat
  try simp only[Act.put,zs1,zs3,zs2]
  apply stepsSeq.cons
  ·intro w' f;have g:=zh f;have aM:=Below.keep f x3;have aL:=Below.keep f x4;have aG:=Below.keep f c0;have aF:=Below.keep f c1;have aE:=Below.keep f c2;have aK:=Below.keep f c3;simp only[Act.put,zs1,zs3,zs2];go_wp2_with ((first|(go_at_call_of 77 (Value.agg #[Value.int IntKind.u8 A,Value.int IntKind.i64 n0,Value.string (bstr nm0),Value.slice ac E.length U]);refine(ap.out _ g.out).mono ?_;rintro e2 w2⟨rfl,Z⟩)|(go_at_call 74;refine(aj.out _ g.out).mono ?_;rintro e2 w2⟨rfl,Z⟩)))
   first|exact⟨rfl,g.out⟩|exact⟨rfl,g.out.trans (Z.mono g.out.size)⟩
 try simp only[Act.put,zs1,zs3,zs2]
 refine stepsSeq.nil ?_;intro w' f;have ai:=zh (af.out.trans (f.mono af.out.size));have ay:=zh f;replace x0:=Below.keep f x0;replace x5:=Below.keep f x5;replace f0:=Below.keep f f0;replace f1:=Below.keep f f1;replace f2:=Below.keep f f2;replace f3:=Below.keep f f3;replace f4:=Below.keep f f4;replace f5:=Below.keep f f5;clear f x3 x4 c0 c1 c2 c3;go_wp2_with fail
 go_at_call 119;refine(ar.out _ ay.out).mono ?_;rintro e3 w3⟨rfl,ag⟩;have ao:=zh (ai.out.trans (ag.mono ai.out.size));clear ag x0 x5 f0 f1 f2 f3 f4 f5;go_wp2_with fail
 exact yE (v:=.string ((({ data:=#[105,102,32] }++((((({ data:=#[40] }++S0)++{ data:=#[41,32,123,10] })++SB)++R)++{ data:=#[125] }))++{ data:=#[32,101,108,115,101,32] })++SZ)) (by simp[results,Tryz.results119,go_sem]) rfl ⟨by rw[HT.out],ao.out⟩
theorem ro_else2{w:World}{B d:Nat}{tabs:List UInt8}{y:Ex}{body:List St}(h0:Shp 40 y)(U:LnR B d body)(J:(zaM (tabs++[9]) body).length<=1000000000000000){els:List St}(an:2<=els.length)(R:LnR B d els)(I:(zaM (tabs++[9]) els).length<=1000000000000000)  {ve vb vl:Value}(hE:EsL w B [y] ve)(L:SsL w B body vb)(K:SsL w B els vl)(hB:B<=w.heap.size)(ht:tabs.length+(d+1)<=100) :
  Calls Tryz.prog 119 #[.agg #[.int .u8 4,.int .i64 0,.string (bstr []),ve,vb,vl],.string (bstr tabs)] w (TxtE ([105,102,32]++([40]++zab y++[41,32,123,10]++zaM (tabs++[9]) body++tabs++[125])++[32,101,108,115,101,32,123,10]++zaM (tabs++[9]) els++tabs++[125]) w):=by
 obtain⟨ea,ec,rfl,-,-⟩:=hE.form;obtain⟨ba,bc,rfl,-,-⟩:=L.form;obtain⟨la,lc,rfl,-,-⟩:=K.form;obtain⟨l,T,j,u⟩:∃l,l=w.alloc (.cells #[.int .u8 4,.int .i64 0,.string (bstr []),.slice ea 1 ec,.slice ba body.length bc,.slice la els.length lc] 56)/\Below w.heap.size w l/\OwnV l w.heap.size 56 [.int .u8 4,.int .i64 0,.string (bstr []),.slice ea 1 ec,.slice ba body.length bc,.slice la els.length lc]:=⟨_,rfl,(yR _ _).alloc (zr _) _,OwnV.new _ _ _⟩;obtain⟨TX,M⟩:∃X:List UInt8,[105,102,32]++([40]++zab y++[41,32,123,10]++zaM (tabs++[9]) body++tabs++[125])++[32,101,108,115,101,32,123,10]++zaM (tabs++[9]) els++tabs++[125]=X:=⟨_,rfl⟩;rw[M];have ag:=zh M;clear M;have q:B<=l.heap.size:=yT hB j.size;have N:=hE.low (j.mono hB);have H:=L.low (j.mono hB);have G:=K.low (j.mono hB);obtain⟨D,m⟩:∃S,bstr tabs=S:=⟨_,rfl⟩;have aw:D.size<=100:=by rw[<-m,zaC];omega
 obtain⟨b,au,A,n0,nm0,F,V,O,rfl,-,-,ac,c0,c1,c2,c3,P⟩:=N.at (k:=0) (by simp);cases ac;obtain⟨S0,C⟩:∃S,bstr (zab (.mk A n0 nm0 F))=S:=⟨_,rfl⟩;have ak:S0.size<=1000000000000010:=by rw[<-C,zaC];have:=zaE h0 (zr _) 1;rw[zaL] at this;omega
 have ae:Hid (∀W,Below l.heap.size l W->Calls Tryz.prog 77 #[.agg #[.int .u8 A,.int .i64 n0,.string (bstr nm0),.slice V F.length O]] W fun e w'=>e=.returned (.string S0)/\Below W.heap.size W w'):=zh (fun W hb=>by rw[<-C];exact rwrite_shp h0 (zr _) A n0 nm0 F _ W rfl (yT q hb.size) (P.low (hb.mono q)));simp only[Nat.zero_mul,Nat.add_zero,Nat.one_mul] at c0 c1 c2 c3;obtain⟨SB,E⟩:∃S,bstr (zaM (tabs++[9]) body)=S:=⟨_,rfl⟩;have aj:SB.size<=1000000000000000:=by rw[<-E,zaC];exact J
 have ab:Hid (∀W,Below l.heap.size l W->Calls Tryz.prog 74 #[.slice ba body.length bc,.string (D++{ data:=#[9] })] W fun e w'=>e=.returned (.string SB)/\Below W.heap.size W w'):=zh (fun W hb=>by
  rw[<-E,show D++{ data:=#[9] } = bstr (tabs++[9]) by rw[<-zax,<-m];rfl]
  exact U _ (tabs++[9]) W (yT q hb.size) (H.low (hb.mono q)) (by simp;omega) J)
 obtain⟨SE,z⟩:∃S,bstr (zaM (tabs++[9]) els)=S:=⟨_,rfl⟩;have am:SE.size<=1000000000000000:=by rw[<-z,zaC];exact I
 have af:Hid (∀W,Below l.heap.size l W->Calls Tryz.prog 74 #[.slice la els.length lc,.string (D++{ data:=#[9] })] W fun e w'=>e=.returned (.string SE)/\Below W.heap.size W w'):=zh (fun W hb=>by
  rw[<-z,show D++{ data:=#[9] } = bstr (tabs++[9]) by rw[<-zax,<-m];rfl]
  exact R _ (tabs++[9]) W (yT q hb.size) (G.low (hb.mono q)) (by simp;omega) I)
 have av:((els.length:Int)==0)=false:=by rw[beq_eq_false_iff_ne];omega
 have ao:((els.length:Int)==1)=false:=by rw[beq_eq_false_iff_ne];omega
 have HT:Hid (bstr TX=(((({ data:=#[105,102,32] }++((((({ data:=#[40] }++S0)++{ data:=#[41,32,123,10] })++SB)++D)++{ data:=#[125] }))++{ data:=#[32,101,108,115,101,32,123,10] })++SE)++D)++{ data:=#[125] }):=zh (by
  rw[<-ag.out,<-C,<-E,<-m,<-z,show({ data:=#[40] }:ByteArray)=bstr [40] from rfl,show({ data:=#[41,32,123,10] }:ByteArray)=bstr [41,32,123,10] from rfl,show({ data:=#[125] }:ByteArray)=bstr [125] from rfl,show({ data:=#[105,102,32] }:ByteArray)=bstr [105,102,32] from rfl,show({ data:=#[32,101,108,115,101,32,123,10] }:ByteArray)=bstr [32,101,108,115,101,32,123,10] from rfl]
  simp[zax,zaZ])
 rw[m];have ah:=zh T;have Y:=zh j;have x0:=u.cell (i:=0) rfl;have x3:=u.cell (i:=3) rfl;have x4:=u.cell (i:=4) rfl;have x5:=u.cell (i:=5) rfl;clear T u j hE L K N H G ht C E P h0 U J m z R I;go_enter Tryz.func119,Tryz.ntmps119
 go_upto_region 1 with(fail)
 rw[<-ah.out];go_wp2_with fail
 refine zac (fun w'=>Below l.heap.size l w') (by kernel_rfl) (by kernel_rfl) ((yR _ _).drew) ?_
 repeat
  try simp only[Act.put,zs1,zs3,zs2]
  apply stepsSeq.cons
  ·intro w' f;have g:=zh f;have az:=Below.keep f x3;have ay:=Below.keep f x4;have ar:=Below.keep f c0;have aq:=Below.keep f c1;have ap:=Below.keep f c2;have ax:=Below.keep f c3;simp only[Act.put,zs1,zs3,zs2];go_wp2_with ((first|(go_at_call_of 77 (Value.agg #[Value.int IntKind.u8 A,Value.int IntKind.i64 n0,Value.string (bstr nm0),Value.slice V F.length O]);refine(ae.out _ g.out).mono ?_;rintro e2 w2⟨rfl,Q⟩)|(go_at_call 74;refine(ab.out _ g.out).mono ?_;rintro e2 w2⟨rfl,Q⟩)))
   first|exact⟨rfl,g.out⟩|exact⟨rfl,g.out.trans (Q.mono g.out.size)⟩
 try simp only[Act.put,zs1,zs3,zs2]
 refine stepsSeq.nil ?_;intro w' f;have aa:=zh (Y.out.trans (f.mono Y.out.size));have ai:=zh f;replace x0:=Below.keep f x0;replace x5:=Below.keep f x5;clear f x3 x4 c0 c1 c2 c3;go_wp2_with fail
 go_at_call 74;refine(af.out _ ai.out).mono ?_;rintro e3 w3⟨rfl,Z⟩;have ad:=zh (aa.out.trans (Z.mono aa.out.size));clear Z x0 x5 ;go_wp2_with fail
 exact yE (v:=.string ((((({ data:=#[105,102,32] }++((((({ data:=#[40] }++S0)++{ data:=#[41,32,123,10] })++SB)++D)++{ data:=#[125] }))++{ data:=#[32,101,108,115,101,32,123,10] })++SE)++D)++{ data:=#[125] })) (by simp[results,Tryz.results119,go_sem]) rfl ⟨by rw[HT.out],ad.out⟩
theorem ro_else1{w:World}{B d:Nat}{tabs:List UInt8}{y:Ex}{body:List St}(h0:Shp 40 y)(V:LnR B d body)(K:(zaM (tabs++[9]) body).length<=1000000000000000){z:St}(hz:opT z≠4)(T:LnR B d [z])(J:(zaM (tabs++[9]) [z]).length<=1000000000000000)  {ve vb vl:Value}(hE:EsL w B [y] ve)(M:SsL w B body vb)(L:SsL w B [z] vl)(hB:B<=w.heap.size)(ht:tabs.length+(d+1)<=100) :
  Calls Tryz.prog 119 #[.agg #[.int .u8 4,.int .i64 0,.string (bstr []),ve,vb,vl],.string (bstr tabs)] w (TxtE ([105,102,32]++([40]++zab y++[41,32,123,10]++zaM (tabs++[9]) body++tabs++[125])++[32,101,108,115,101,32,123,10]++zaM (tabs++[9]) [z]++tabs++[125]) w):=by
 obtain⟨ea,ec,rfl,-,-⟩:=hE.form;obtain⟨ba,bc,rfl,-,-⟩:=M.form;obtain⟨la,lc,rfl,-,-⟩:=L.form;obtain⟨l,U,j,A⟩:∃l,l=w.alloc (.cells #[.int .u8 4,.int .i64 0,.string (bstr []),.slice ea 1 ec,.slice ba body.length bc,.slice la 1 lc] 56)/\Below w.heap.size w l/\OwnV l w.heap.size 56 [.int .u8 4,.int .i64 0,.string (bstr []),.slice ea 1 ec,.slice ba body.length bc,.slice la 1 lc]:=⟨_,rfl,(yR _ _).alloc (zr _) _,OwnV.new _ _ _⟩;obtain⟨TX,N⟩:∃X:List UInt8,[105,102,32]++([40]++zab y++[41,32,123,10]++zaM (tabs++[9]) body++tabs++[125])++[32,101,108,115,101,32,123,10]++zaM (tabs++[9]) [z]++tabs++[125]=X:=⟨_,rfl⟩;rw[N];have an:=zh N;clear N;have q:B<=l.heap.size:=yT hB j.size;have O:=hE.low (j.mono hB);have I:=M.low (j.mono hB);have u:=L.low (j.mono hB);obtain⟨F,m⟩:∃S,bstr tabs=S:=⟨_,rfl⟩;have aH:F.size<=100:=by rw[<-m,zaC];omega
 obtain⟨b,aC,D,n0,nm0,H,Y,P,rfl,-,-,ad,c0,c1,c2,c3,Q⟩:=O.at (k:=0) (by simp);cases ad;obtain⟨S0,E⟩:∃S,bstr (zab (.mk D n0 nm0 H))=S:=⟨_,rfl⟩;have ar:S0.size<=1000000000000010:=by rw[<-E,zaC];have:=zaE h0 (zr _) 1;rw[zaL] at this;omega
 have ah:Hid (∀W,Below l.heap.size l W->Calls Tryz.prog 77 #[.agg #[.int .u8 D,.int .i64 n0,.string (bstr nm0),.slice Y H.length P]] W fun e w'=>e=.returned (.string S0)/\Below W.heap.size W w'):=zh (fun W hb=>by rw[<-E];exact rwrite_shp h0 (zr _) D n0 nm0 H _ W rfl (yT q hb.size) (Q.low (hb.mono q)));simp only[Nat.zero_mul,Nat.add_zero,Nat.one_mul] at c0 c1 c2 c3;obtain⟨SB,G⟩:∃S,bstr (zaM (tabs++[9]) body)=S:=⟨_,rfl⟩;have aq:SB.size<=1000000000000000:=by rw[<-G,zaC];exact K
 have ac:Hid (∀W,Below l.heap.size l W->Calls Tryz.prog 74 #[.slice ba body.length bc,.string (F++{ data:=#[9] })] W fun e w'=>e=.returned (.string SB)/\Below W.heap.size W w'):=zh (fun W hb=>by
  rw[<-G,show F++{ data:=#[9] } = bstr (tabs++[9]) by rw[<-zax,<-m];rfl]
  exact V _ (tabs++[9]) W (yT q hb.size) (I.low (hb.mono q)) (by simp;omega) K)
 obtain⟨SE,C⟩:∃S,bstr (zaM (tabs++[9]) [z])=S:=⟨_,rfl⟩;have au:SE.size<=1000000000000000:=by rw[<-C,zaC];exact J
 have ai:Hid (∀W,Below l.heap.size l W->Calls Tryz.prog 74 #[.slice la 1 lc,.string (F++{ data:=#[9] })] W fun e w'=>e=.returned (.string SE)/\Below W.heap.size W w'):=zh (fun W hb=>by
  rw[<-C,show F++{ data:=#[9] } = bstr (tabs++[9]) by rw[<-zax,<-m];rfl]
  exact T _ (tabs++[9]) W (yT q hb.size) (u.low (hb.mono q)) (by simp;omega) J)
 obtain⟨bz,oz,aj,n2,aE,aA,ax,aF,aK,aG,aN,aD,al2,aJ,rfl,-,-,am,f0,f1,f2,f3,f4,f5,ak,af,ae⟩:=u.at (k:=0) (by simp);cases am;simp only[Nat.zero_mul,Nat.add_zero] at f0 f1 f2 f3 f4 f5;have av:(aj==4)=false:=by rw[beq_eq_false_iff_ne];exact hz
 have HT:Hid (bstr TX=(((({ data:=#[105,102,32] }++((((({ data:=#[40] }++S0)++{ data:=#[41,32,123,10] })++SB)++F)++{ data:=#[125] }))++{ data:=#[32,101,108,115,101,32,123,10] })++SE)++F)++{ data:=#[125] }):=zh (by
  rw[<-an.out,<-E,<-G,<-m,<-C,show({ data:=#[40] }:ByteArray)=bstr [40] from rfl,show({ data:=#[41,32,123,10] }:ByteArray)=bstr [41,32,123,10] from rfl,show({ data:=#[125] }:ByteArray)=bstr [125] from rfl,show({ data:=#[105,102,32] }:ByteArray)=bstr [105,102,32] from rfl,show({ data:=#[32,101,108,115,101,32,123,10] }:ByteArray)=bstr [32,101,108,115,101,32,123,10] from rfl]
  simp[zax,zaZ])
 rw[m];have ao:=zh U;have Z:=zh j;have x0:=A.cell (i:=0) rfl;have x3:=A.cell (i:=3) rfl;have x4:=A.cell (i:=4) rfl;have x5:=A.cell (i:=5) rfl;clear U A j hE M L O I u ht E G Q h0 V K m C T J ak af ae;go_enter Tryz.func119,Tryz.ntmps119
 go_upto_region 1 with(fail)
 rw[<-ao.out];go_wp2_with fail
 refine zac (fun w'=>Below l.heap.size l w') (by kernel_rfl) (by kernel_rfl) ((yR _ _).drew) ?_
 repeat
  try simp only[Act.put,zs1,zs3,zs2]
  apply stepsSeq.cons
  ·intro w' f;have g:=zh f;have aM:=Below.keep f x3;have aL:=Below.keep f x4;have az:=Below.keep f c0;have ay:=Below.keep f c1;have aw:=Below.keep f c2;have aI:=Below.keep f c3;simp only[Act.put,zs1,zs3,zs2];go_wp2_with ((first|(go_at_call_of 77 (Value.agg #[Value.int IntKind.u8 D,Value.int IntKind.i64 n0,Value.string (bstr nm0),Value.slice Y H.length P]);refine(ah.out _ g.out).mono ?_;rintro e2 w2⟨rfl,R⟩)|(go_at_call 74;refine(ac.out _ g.out).mono ?_;rintro e2 w2⟨rfl,R⟩)))
   first|exact⟨rfl,g.out⟩|exact⟨rfl,g.out.trans (R.mono g.out.size)⟩
 try simp only[Act.put,zs1,zs3,zs2]
 refine stepsSeq.nil ?_;intro w' f;have ab:=zh (Z.out.trans (f.mono Z.out.size));have ap:=zh f;replace x0:=Below.keep f x0;replace x5:=Below.keep f x5;replace f0:=Below.keep f f0;replace f1:=Below.keep f f1;replace f2:=Below.keep f f2;replace f3:=Below.keep f f3;replace f4:=Below.keep f f4;replace f5:=Below.keep f f5;clear f x3 x4 c0 c1 c2 c3;go_wp2_with fail
 go_at_call 74;refine(ai.out _ ap.out).mono ?_;rintro e3 w3⟨rfl,aa⟩;have ag:=zh (ab.out.trans (aa.mono ab.out.size));clear aa x0 x5 f0 f1 f2 f3 f4 f5;go_wp2_with fail
 exact yE (v:=.string ((((({ data:=#[105,102,32] }++((((({ data:=#[40] }++S0)++{ data:=#[41,32,123,10] })++SB)++F)++{ data:=#[125] }))++{ data:=#[32,101,108,115,101,32,123,10] })++SE)++F)++{ data:=#[125] })) (by simp[results,Tryz.results119,go_sem]) rfl ⟨by rw[HT.out],ag.out⟩
end Go.Proofs.YtoaojdobjinhfaaGreatDoor
