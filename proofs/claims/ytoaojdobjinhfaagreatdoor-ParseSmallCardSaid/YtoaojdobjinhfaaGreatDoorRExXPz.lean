/- The reference's Expr, walked. -/
import Derived.Test.YtoaojdobjinhfaaGreatDoorAwMPz
import Derived.Lib.SlBytesRow
set_option linter.unusedSimpArgs false
set_option linter.unusedVariables false
set_option maxRecDepth 100000
set_option maxHeartbeats 16000000
namespace Go.Proofs.YtoaojdobjinhfaaGreatDoor
open Go.RowKit

theorem refExpr_any(s:ByteArray)(w:World)(hs:s.size<=9223372036854775807) :
  Calls Tryz.prog 41 #[.string s] w fun e w'=>ExpE w w' e (zbT s.data.toList)/\Below w.heap.size w w':=by
 obtain⟨Q,ae,ac,T⟩:∃Q,Q=w.alloc (.cells #[.int .u8 0,.int .i64 0,.string { data:=#[] },.slice none 0 0] 29)/\Below w.heap.size w Q/\OwnV Q w.heap.size 29 zeroE:=⟨_,rfl,(yR _ _).alloc (zr _) _,OwnV.new w _ zeroE⟩;have HL:Hid (Calls Tryz.prog 70 #[.string s] Q _):=zh (zkB s Q hs);have K:=zh ac;have ab:=zh T;have ag:=zh ae;have aw:=T.lt;clear ac T ae;obtain⟨d,E⟩:∃r,zbT s.data.toList=r:=⟨_,rfl⟩
 have V:Hid (d=match lexS s.data.toList with
  | .err a b c=>.err a b c
  | .ok l=>match zf4 l with
   | .ok x _=>.ok x
   | .err i c=>.err (zaa l i).line (zaa l i).col c):=zh (by rw[<-E];rfl)
 rw[E];clear E
 cases hlx:lexS s.data.toList with
 | err a b c =>
  have H:=zd9 hlx;have ah:(c != 0)=true:=by simpa using H
  rw[hlx] at HL V;have U:Hid (d=.err a b c):=zh V.out;have D:=zh H;clear hlx H V;go_enter Tryz.func41,Tryz.ntmps41
  go_upto_region 1 with(fail)
  rw[<-ag.out];go_wp2_with fail
  go_at_call 70;refine HL.out.mono ?_;rintro e1 w1⟨ak,q⟩;obtain rfl:=ak;have hO:=ab.out.below q (zr _);obtain⟨Z,Y,b2,b3⟩:=yc4 hO;have bf:=hO.free;have L:=zh (K.out.trans (q.mono K.out.size));clear q hO;go_wp2_with fail
  exact yE (v:=.tuple #[.agg #[.int .u8 0,.int .i64 0,.string { data:=#[] },.slice none 0 0],.int .i64 a,.int .i64 b,.int .i64 c]) (by simp[results,Tryz.results41,go_sem,Z,Y,b2,b3]) rfl ⟨by rw[U.out];exact⟨rfl,D.out⟩,(((L.out.setCell (zr _) _).setCell (zr _) _).setCell (zr _) _).setCell (zr _) _⟩
 | ok l =>
  have hG:=ziD hlx;have aq:=ziK hlx;rw[hlx] at HL V;have hm:l.length<=1000000:=by omega
  have P:0<l.length:=by have:=hG.pos;omega
  have HC:Hid (∀v W,Toks W l v->Calls Tryz.prog 72 #[v,.int .i64 (0:Nat),.int .i64 (0:Nat),.int .i64 (1:Nat)] W fun e w'=>zb4 l 0 W w' e (zaA l 0 0 1)/\Below W.heap.size W w'):=zh (fun v W hT=>ziI l v hG (by omega) 0 0 1 W hT P (by omega) (by omega))
  have X:Hid (d=(match (zaA l 0 0 1).andThen fun x j=>if(zaa l j).kind=4 then PR.ok x j else .err j 120 with
   | .ok x _=>ParX.ok x
   | .err i c=>.err (zaa l i).line (zaa l i).col c)):=zh V.out
  clear hlx V
  generalize zaA l 0 0 1=R at *
  go_enter Tryz.func41,Tryz.ntmps41
  go_upto_region 1 with(fail)
  rw[<-ag.out];go_wp2_with fail
  go_at_call 70;refine HL.out.mono ?_;rintro e1 w1⟨⟨v1,rfl,hT⟩,q⟩;have O:Hid (Q.heap.size<=w1.heap.size):=zh q.size;have ao:=zh (ab.out.below q (zr _));have L:=zh (K.out.trans (q.mono K.out.size));have HT:=zh hT;have J:=zh (HC.out v1 w1 hT);obtain⟨ta,M,rfl,_,_⟩:=Sl.form hT;have ar:=q.size;clear q hT HC HL;go_wp2_with fail
  go_at_call 72;refine J.out.mono ?_;rintro e2 w2⟨af,I⟩;have ai:=zh I;have F:=zh (L.out.trans (I.mono L.out.size));have B:=zh (Sl.below (by omega) HT.out I (zr _));clear I;have C:=zh (ao.out.below ai.out (zr _))
  cases R with
  | err a c =>
   obtain⟨op,n,nm,ad,m,cp,rfl,hc,an⟩:=af;have H:(c != 0)=true:=by rcases hc with rfl|rfl <;> rfl
   have ah:(c==0)=false:=by rcases hc with rfl|rfl <;> rfl
   have D:Hid (c≠0):=zh (by rcases hc with rfl|rfl <;> decide);have U:Hid (d=.err (zaa l a).line (zaa l a).col c):=zh X.out;have f:Toks (w2.alloc (.cells #[.int .u8 op,.int .i64 n,.string nm,.slice ad m cp] 29)) l (.slice ta l.length M):=Sl.below (by omega) B.out ((yR _ _).alloc (zr _) _) (zr _);have g:=C.out.alloc (.cells #[.int .u8 op,.int .i64 n,.string nm,.slice ad m cp] 29);obtain⟨Z,Y,b2,b3⟩:=yc4 g;have bf:=g.free;have z:=zln f P g (by decide);have HB:=zh (F.out.alloc (by have:=F.out.size;omega) (.cells #[.int .u8 op,.int .i64 n,.string nm,.slice ad m cp] 29));obtain⟨G,u,rfl,d0,-,-,d3,d4⟩:=zaF f an;have y:¬G=w.heap.size:=z G rfl;have av:(a:Int)<l.length:=by omega
   generalize (zaa l a).line=LN at *
   generalize (zaa l a).col=CN at *
   clear f g z hc B C J X d0;go_wp2_with fail
   go_region_held3 (fun w'=>w'.cell? ⟨G,u+a*5+3,none⟩=some (.int .i64 LN)/\w'.cell? ⟨G,u+a*5+4,none⟩=some (.int .i64 CN)) (first|assumption|(simp[go_sem,y,Ne.symm y,d3,d4];done)|go_keep) (fail)
   go_wp2_with fail
   exact yE (v:=.tuple #[.agg #[.int .u8 0,.int .i64 0,.string { data:=#[] },.slice none 0 0],.int .i64 LN,.int .i64 CN,.int .i64 c]) (by simp[results,Tryz.results41,go_sem,Z,Y,b2,b3]) rfl ⟨by rw[U.out];exact⟨rfl,D.out⟩,((((HB.out.setCell (zr _) _).setCell (zr _) _).setCell (zr _) _).setCell (zr _) _).drew⟩
  | ok x j =>
   obtain⟨v3,rfl,⟨cs,rfl,hX⟩,au,aj⟩:=af;obtain⟨op,n,name,args⟩:=x;obtain⟨N,cap,rfl⟩:=hX.form1;have f:Toks (w2.alloc (.cells #[.int .u8 op,.int .i64 n,.string (bstr name),.slice N args.length cap] 29)) l (.slice ta l.length M):=Sl.below (by omega) B.out ((yR _ _).alloc (zr _) _) (zr _);have g:=C.out.alloc (.cells #[.int .u8 op,.int .i64 n,.string (bstr name),.slice N args.length cap] 29);obtain⟨Z,Y,b2,b3⟩:=yc4 g;have bf:=g.free;have z:=zln f P g (by decide);have HB:=zh (F.out.alloc (by have:=F.out.size;omega) (.cells #[.int .u8 op,.int .i64 n,.string (bstr name),.slice N args.length cap] 29));obtain⟨G,u,rfl,d0,-,-,d3,d4⟩:=zaF f aj;have y:¬G=w.heap.size:=z G rfl;have ap:(j:Int)<l.length:=by omega
   have hz:=OwnV.new w2 29 [.int .u8 op,.int .i64 n,.string (bstr name),.slice N args.length cap];obtain⟨z0,z1,z2,z3⟩:=yc4 hz;by_cases A:(zaa l j).kind=4
   ·have U:Hid (d=.ok (.mk op n name args)):=zh (by
     rw[X.out];simp only[PR.andThen]
     rw[yP A])
    rw[A] at d0;have am:Hid (ExsC (((((w2.alloc (.cells #[.int .u8 op,.int .i64 n,.string (bstr name),.slice N args.length cap] 29)).setCell ⟨w.heap.size,0,none⟩ (.int .u8 op)).setCell ⟨w.heap.size,1,none⟩ (.int .i64 n)).setCell ⟨w.heap.size,2,none⟩ (.string (bstr name))).setCell ⟨w.heap.size,3,none⟩ (.slice N args.length cap)) (fun b=>w.heap.size<=b) [.mk op n name args] [.int .u8 op,.int .i64 n,.string (bstr name),.slice N args.length cap]):=zh ((hX.only (S:=fun b=>b=w.heap.size) ((((((Turns.refl w.heap.size w2).alloc _).set _ _).set _ _).set _ _).set _ _) (fun b hb e=>by have:w1.heap.size<=b:=hb;have:=O.out;omega)).weak fun b _ hb=>by have:w1.heap.size<=b:=hb;have:=O.out;show w.heap.size<=b;omega);clear f g z B C J X d3 d4 A hX hz;go_wp2_with fail
    refine yE (v:=.tuple #[.agg #[.int .u8 op,.int .i64 n,.string (bstr name),.slice N args.length cap],.int .i64 0,.int .i64 0,.int .i64 0]) (by simp[results,Tryz.results41,go_sem,Z,Y,b2,b3]) rfl ⟨by rw[U.out];exact⟨_,rfl,_,rfl,am.out⟩,(((HB.out.setCell (zr _) _).setCell (zr _) _).setCell (zr _) _).setCell (zr _) _⟩
   ·have U:Hid (d=.err (zaa l j).line (zaa l j).col 120):=zh (by
     rw[X.out];simp only[PR.andThen]
     rw[yN A])
    have hq:((zaa l j).kind != 4)=true:=by simpa using A
    have D:Hid ((120:Int)≠0):=zh (by decide)
    generalize (zaa l j).kind=KD at *
    generalize (zaa l j).line=LN at *
    generalize (zaa l j).col=CN at *
    clear f g z B C J X A hX hz z0 z1 z2 z3;go_wp2_with fail
    go_region_held3 (fun w'=>w'.cell? ⟨G,u+j*5+3,none⟩=some (.int .i64 LN)/\w'.cell? ⟨G,u+j*5+4,none⟩=some (.int .i64 CN)) (first|assumption|(simp[go_sem,y,Ne.symm y,d3,d4];done)|go_keep) (fail)
    go_wp2_with fail
    exact yE (v:=.tuple #[.agg #[.int .u8 0,.int .i64 0,.string { data:=#[] },.slice none 0 0],.int .i64 LN,.int .i64 CN,.int .i64 120]) (by simp[results,Tryz.results41,go_sem,Z,Y,b2,b3]) rfl ⟨by rw[U.out];exact⟨rfl,D.out⟩,((((HB.out.setCell (zr _) _).setCell (zr _) _).setCell (zr _) _).setCell (zr _) _).drew⟩

def XAns (op n : Int) (name : List UInt8) (args : List Ex) (a b c : Int) (w : World) (e : Ending) (w' : World) : Prop :=
  (∃ p cap, e = .returned (.tuple #[.agg #[.int .u8 op, .int .i64 n, .string (bstr name), .slice p args.length cap], .int .i64 a, .int .i64 b, .int .i64 c]) /\ EsL w' w'.heap.size args (.slice p args.length cap)) /\ Below w.heap.size w w'
theorem xans_of{w w':World}{e:Ending}{x:ParX}{op n:Int}{name:List UInt8}{args:List Ex}{a b c:Int}(h:ExpE w w' e x/\Below w.heap.size w w')
  (i:x=.ok (.mk op n name args)/\a=0/\b=0/\c=0∨x=.err a b c/\op=0/\n=0/\name=[]/\args=[]):XAns op n name args a b c w e w':=by
 rcases i with⟨rfl,rfl,rfl,rfl⟩|⟨rfl,rfl,rfl,rfl,rfl⟩
 ·obtain⟨⟨v,rfl,cs,rfl,f⟩,d⟩:=h;obtain⟨g,cap,rfl⟩:=f.form1;exact⟨⟨g,cap,rfl,zhH f⟩,d⟩
 ·obtain⟨⟨rfl,-⟩,d⟩:=h;exact⟨⟨none,0,rfl,EsL.nil _ _⟩,d⟩
theorem expr_ans(s:ByteArray)(d:s.size<=9223372036854775807):∃(op n:Int) (name:List UInt8) (args:List Ex) (a b c:Int),
  (∀w:World,Glob w->Calls Tryz.prog 34 #[.string s] w (XAns op n name args a b c w))/\(∀w:World,Calls Tryz.prog 41 #[.string s] w (XAns op n name args a b c w)):=by
 cases h:zbT s.data.toList with
 | ok x =>
  obtain⟨op,n,name,args⟩:=x
  exact⟨op,n,name,args,0,0,0,fun w hG=>(zew hG s d).mono fun e w' he=>xans_of he (.inl ⟨h,rfl,rfl,rfl⟩),fun w=>(refExpr_any s w d).mono fun e w' he=>xans_of he (.inl ⟨h,rfl,rfl,rfl⟩)⟩
 | err a b c =>
  exact⟨0,0,[],[],a,b,c,fun w hG=>(zew hG s d).mono fun e w' he=>xans_of he (.inr ⟨h,rfl,rfl,rfl,rfl⟩),fun w=>(refExpr_any s w d).mono fun e w' he=>xans_of he (.inr ⟨h,rfl,rfl,rfl,rfl⟩)⟩
theorem reads_any(s:ByteArray)(I:s.size<=9223372036854775807)(w:World)(G:Glob w):Calls Tryz.prog 16 #[.string s] w (YesE w):=by
 obtain⟨op,n,name,args,a,b,c,E,B⟩:=expr_ans s I;unfold XAns at E B;have O:=zh (E w G);have L:=zh B;have N:=G.size;clear E B G I;go_enter Tryz.func16,Tryz.ntmps16
 go_wp2_with fail
 go_at_call 34;refine O.out.mono ?_;rintro W K⟨⟨m,z,rfl,u⟩,i⟩;have F:=zh (EsL.mono (u.low ((yR _ _).alloc (zr _) (.cells #[.int .u8 op,.int .i64 n,.string (bstr name),.slice m args.length z] 29))) (Nat.le_of_lt (OwnV.new K 29 [.int .u8 op,.int .i64 n,.string (bstr name),.slice m args.length z]).lt));have f:=zh (i.alloc i.size (.cells #[.int .u8 op,.int .i64 n,.string (bstr name),.slice m args.length z] 29));have H:=zh (OwnV.new K 29 [.int .u8 op,.int .i64 n,.string (bstr name),.slice m args.length z]);clear u i;go_wp2_with fail
 go_at_call 41;refine(L.out _).mono ?_;rintro P w2⟨⟨l,j,rfl,A⟩,d⟩;have q:=zh ((f.out.trans (d.mono f.out.size)).alloc (yT f.out.size d.size) (.cells #[.int .u8 op,.int .i64 n,.string (bstr name),.slice l args.length j] 29));have J:=(H.out.below d (zr _)).alloc (.cells #[.int .u8 op,.int .i64 n,.string (bstr name),.slice l args.length j] 29);have D:=OwnV.new w2 29 [.int .u8 op,.int .i64 n,.string (bstr name),.slice l args.length j];have g:=D.lt;have M:=zh (zeT op n name args _ _ (w2.alloc (.cells #[.int .u8 op,.int .i64 n,.string (bstr name),.slice l args.length j] 29)) ⟨m,z,rfl⟩ ⟨l,j,rfl⟩ (fun w' hb=>zes (szEs args+1) args _ _ w' w2.heap.size (by omega) ((EsL.mono (F.out.low d) d.size).low (((yR _ _).alloc (zr _) _).trans (hb.mono (Nat.le_of_lt g)))) (A.low (((yR _ _).alloc (zr _) _).trans (hb.mono (Nat.le_of_lt g)))) (yT (Nat.le_of_lt g) hb.size)));obtain⟨X,Y,T,S⟩:=yc4 J;obtain⟨V,R,y2,y3⟩:=yc4 D;clear A d J D;go_wp2_with fail
 go_at_call 35;refine M.out.mono ?_;rintro Q U⟨rfl,y⟩;have C:=zh (q.out.trans (y.mono q.out.size));clear y;go_wp2_with fail
 exact yE (v:=.bool true) (by simp[results,Tryz.results16,go_sem]) rfl ⟨rfl,C.out⟩

def WrR (B : Nat) (x : Ex) : Prop := ∀ (op n : Int) (name : List UInt8) (args : List Ex) (v : Value) (w : World), x = .mk op n name args -> B <= w.heap.size -> EsL w B args v -> Calls Tryz.prog 77 #[.agg #[.int .u8 op, .int .i64 n, .string (bstr name), v]] w (TxtE (zab x) w)
theorem bind_class{op:Int}(d:1<=op)(f:op<=24):((op<10∨22<op)/\zar op=6)∨(10<=op/\op<=12/\zar op=5)∨((op=13∨op=14)/\zar op=4)∨(15<=op/\op<=20/\zar op=3)∨(op=21/\zar op=2)∨(op=22/\zar op=1):=by
 have:op=1∨op=2∨op=3∨op=4∨op=5∨op=6∨op=7∨op=8∨op=9∨op=10∨op=11∨op=12∨op=13∨op=14∨op=15∨op=16∨op=17∨op=18∨op=19∨op=20∨op=21∨op=22∨op=23∨op=24:=by omega
 rcases this with rfl|rfl|rfl|rfl|rfl|rfl|rfl|rfl|rfl|rfl|rfl|rfl|rfl|rfl|rfl|rfl|rfl|rfl|rfl|rfl|rfl|rfl|rfl|rfl <;> decide
theorem strength_any{op n:Int}{nm:ByteArray}{v:Value}(z:1<=op)(q:op<=24)(l:∃a m cap,v=.slice a m cap)(w:World) :
  Calls Tryz.prog 120 #[.agg #[.int .u8 op,.int .i64 n,.string nm,v]] w fun e w'=>e=.returned (.int .i64 (zar op:Nat))/\Below w.heap.size w w':=by
 obtain⟨a,m,cap,rfl⟩:=l;have f:∃k:Nat,op=k:=⟨op.toNat,by omega⟩;rcases bind_class z q with⟨h,d⟩|⟨h,j,d⟩|⟨h,d⟩|⟨h,j,d⟩|⟨rfl,d⟩|⟨rfl,d⟩
 all_goals
  rw[d];clear d f
 ·have g:(op==13)=false:=by rw[beq_eq_false_iff_ne];omega
  have i:(op==14)=false:=by rw[beq_eq_false_iff_ne];omega
  have u:(op==21)=false:=by rw[beq_eq_false_iff_ne];omega
  have y:(op==22)=false:=by rw[beq_eq_false_iff_ne];omega
  rcases h with h|h
  ·go_enter Tryz.func120,Tryz.ntmps120
   go_wp2;go_ret;exact⟨rfl,(yR _ _).alloc (zr _) _⟩
  ·go_enter Tryz.func120,Tryz.ntmps120
   go_wp2;go_ret;exact⟨rfl,(yR _ _).alloc (zr _) _⟩
 ·go_enter Tryz.func120,Tryz.ntmps120
  go_wp2;go_ret;exact⟨rfl,(yR _ _).alloc (zr _) _⟩
 ·rcases h with rfl|rfl
  ·go_enter Tryz.func120,Tryz.ntmps120
   go_wp2;go_ret;exact⟨rfl,(yR _ _).alloc (zr _) _⟩
  ·go_enter Tryz.func120,Tryz.ntmps120
   go_wp2;go_ret;exact⟨rfl,(yR _ _).alloc (zr _) _⟩
 ·have g:(op==13)=false:=by rw[beq_eq_false_iff_ne];omega
  have i:(op==14)=false:=by rw[beq_eq_false_iff_ne];omega
  go_enter Tryz.func120,Tryz.ntmps120
  go_wp2;go_ret;exact⟨rfl,(yR _ _).alloc (zr _) _⟩
 ·go_enter Tryz.func120,Tryz.ntmps120
  go_wp2;go_ret;exact⟨rfl,(yR _ _).alloc (zr _) _⟩
 ·go_enter Tryz.func120,Tryz.ntmps120
  go_wp2;go_ret;exact⟨rfl,(yR _ _).alloc (zr _) _⟩
theorem rpart_any{B:Nat}{op n:Int}{name:List UInt8}{args:List Ex}{v:Value}{w:World}{d:Nat}(O:1<=op)(L:op<=24)(hl:d<=6)(Y:(zab (.mk op n name args)).length<=1000000000000000)(V:WrR B (.mk op n name args))(U:B<=w.heap.size)(I:EsL w B args v) :
  Calls Tryz.prog 121 #[.agg #[.int .u8 op,.int .i64 n,.string (bstr name),v],.int .i64 d] w (TxtE (zak (.mk op n name args) d) w):=by
 obtain⟨a,cap,rfl,ab,ac⟩:=I.form;obtain⟨y,D,A,u⟩:∃y,y=w.alloc (.cells #[.int .u8 op,.int .i64 n,.string (bstr name),.slice a args.length cap] 29)/\Below w.heap.size w y/\OwnV y w.heap.size 29 [.int .u8 op,.int .i64 n,.string (bstr name),.slice a args.length cap]:=⟨_,rfl,(yR _ _).alloc (zr _) _,OwnV.new _ _ _⟩;have E:=zh (strength_any (n:=n) (nm:=bstr name) (v:=.slice a args.length cap) O L ⟨_,_,_,rfl⟩ y);have F:Hid (∀W,Below w.heap.size w W->Calls Tryz.prog 77 #[.agg #[.int .u8 op,.int .i64 n,.string (bstr name),.slice a args.length cap]] W (TxtE (zab (.mk op n name args)) W)):=zh (fun W hb=>V op n name args _ W rfl (yT U hb.size) (I.low (hb.mono U)));have hp:zak (.mk op n name args) d=if zar op<d then [40]++zab (.mk op n name args)++[41] else zab (.mk op n name args):=rfl
 have aa:zar op<=6:=by rcases bind_class O L with⟨_,h⟩|⟨_,_,h⟩|⟨_,h⟩|⟨_,_,h⟩|⟨_,h⟩|⟨_,h⟩ <;> omega
 obtain⟨R,X⟩:∃R,zak (.mk op n name args) d=R:=⟨_,rfl⟩;rw[X] at hp ⊢
 generalize zab (.mk op n name args)=T at *
 generalize zar op=m at *
 have Q:=zh hp;have M:=zh D;have C:=zh u;have z:=zh A;obtain⟨N,P,K,J⟩:=yc4 u;have hT:(bstr T).size<=1000000000000000:=by rw[zaC];exact Y
 unfold TxtE at F;clear D u A hp X V I Y O L;go_enter Tryz.func121,Tryz.ntmps121
 go_upto_region 1 with(fail)
 rw[<-M.out];go_wp2_with fail
 go_at_call 120;refine E.out.mono ?_;rintro e1 w1⟨rfl,q⟩;have f:=zh (z.out.trans (q.mono z.out.size));have j:=C.out.below q (zr _);replace N:=j.cell (i:=0) rfl;replace P:=j.cell (i:=1) rfl;replace K:=j.cell (i:=2) rfl;replace J:=j.cell (i:=3) rfl;clear q j C;by_cases Z:m<d
 ·have H:(m:Int)<d:=by omega
  have ht:bstr R=({ data:=#[40] }++bstr T)++{ data:=#[41] }:=by rw[Q.out,yP Z,show({ data:=#[40] }:ByteArray)=bstr [40] from rfl,show({ data:=#[41] }:ByteArray)=bstr [41] from rfl,zax,zax]
  have G:=zh ht
  generalize bstr T=S at *
  clear ht;go_wp2_with fail
  go_at_call 77;refine(F.out _ f.out).mono ?_;rintro e2 w2⟨rfl,g⟩;have l:=zh (f.out.trans (g.mono f.out.size));clear g N P K J;go_wp2_with fail
  exact yE (v:=.string (({ data:=#[40] }++S)++{ data:=#[41] })) (by simp[results,Tryz.results121,go_sem]) rfl ⟨by rw[G.out],l.out⟩
 ·have H:¬(m:Int)<d:=by omega
  have G:Hid (bstr R=bstr T):=zh (by rw[Q.out,yN Z])
  generalize bstr T=S at *
  go_wp2_with fail
  go_at_call 77;refine(F.out _ f.out).mono ?_;rintro e2 w2⟨rfl,g⟩;have l:=zh (f.out.trans (g.mono f.out.size));clear g N P K J;go_wp2_with fail
  exact yE (v:=.string S) (by simp[results,Tryz.results121,go_sem]) rfl ⟨by rw[G.out],l.out⟩

theorem rdc_one(w:World)(x:UInt8)(c:Int)(f:c=(x.toNat:Int)) :
  (convert 63 9 (.slice (some ⟨w.heap.size,0,none⟩) 1 1)).run Tryz.prog (w.alloc (.cells #[.int .u8 c] 5))=.ok (.string (bstr [x])) (w.alloc (.cells #[.int .u8 c] 5)):=by
 subst f
 have:=Lib.run_convert_whole (P:=Tryz.prog) (w.alloc (.cells #[.int .u8 x.toNat] 5)) 63 5 9 Tryz.underlying63 Tryz.underlying5 Tryz.underlying9 w.heap.size 0 (bstr [x]) (fun i hi=>by
  have g:(bstr [x]).size=1:=rfl;have d:i=0:=by omega
  subst d;rw[Nat.add_zero,World.cell?_alloc_new]
  rfl) 1
 exact this
theorem rdc_at(w:World)(g:Nat)(x:UInt8)(c:Int)(f:c=(x.toNat:Int))(h:w.cell? ⟨g,0,none⟩=some (.int .u8 c)) :
  (convert 63 9 (.slice (some ⟨g,0,none⟩) 1 1)).run Tryz.prog w=.ok (.string (bstr [x])) w:=by
 subst f
 have:=Lib.run_convert_whole (P:=Tryz.prog) w 63 5 9 Tryz.underlying63 Tryz.underlying5 Tryz.underlying9 g 0 (bstr [x]) (fun i hi=>by
  have j:(bstr [x]).size=1:=rfl;have d:i=0:=by omega
  subst d
  exact h) 1
 exact this
def rdcDigit (c : Int) (j : Nat) (v : Value) (w : World) : Prop := j = 7 -> ∃ g, v = .slice (some ⟨g, 0, none⟩) 1 1 /\ w.cell? ⟨g, 0, none⟩ = some (.int .u8 c)
theorem rdc_small(n:Nat)(w:World)(d:n<10):Calls Tryz.prog 122 #[.int .i64 n] w fun e w'=>e=.returned (.string (bstr (Lib.decDigits n)))/\Below w.heap.size w w':=by
 rw[show bstr (Lib.decDigits n)=bstr [UInt8.ofNat (48+n)] from by rw[Lib.decDigits,dif_pos d]];have f:=rdc_one w (UInt8.ofNat (48+n)) (48+n) (by rw[zf7 n d];omega)
 generalize bstr [UInt8.ofNat (48+n)]=S at *
 have g:IntKind.u8.wrap (48+(n:Int))=48+n:=by simp[IntKind.wrap,IntKind.bits,IntKind.signed];omega
 go_enter Tryz.func122,Tryz.ntmps122
 go_wp2_with fail
 go_ret;exact⟨rfl,(yR _ _).alloc (zr _) _⟩
theorem rdc_calls:∀(m n:Nat) (w:World),n<=m->n<=9223372036854775807->Calls Tryz.prog 122 #[.int .i64 n] w fun e w'=>e=.returned (.string (bstr (Lib.decDigits n)))/\Below w.heap.size w w':=by
 intro m
 induction m with
 | zero=>intro n w O _;exact rdc_small n w (by omega)
 | succ m ih =>
  intro n w O G;by_cases y:n<10
  ·exact rdc_small n w y
  ·have Q:Hid (∀w:World,_):=zh (fun w:World=>ih (n/10) w (by omega) (by omega));have F:(n:Int).tdiv 10=((n/10:Nat):Int):=by rw[Int.tdiv_eq_ediv_of_nonneg (by omega)];omega
   have E:(n:Int).tmod 10=((n%10:Nat):Int):=by rw[Int.tmod_eq_emod_of_nonneg (by omega)];omega
   have K:Hid (∀(w:World) (g:Nat),_):=zh (fun(w:World) (g:Nat)=>rdc_at w g (UInt8.ofNat (48+n%10)) (48+((n%10:Nat):Int)) (by rw[zf7 _ (Nat.mod_lt _ (by omega))];omega));have l:bstr (Lib.decDigits n)=bstr (Lib.decDigits (n/10))++bstr [UInt8.ofNat (48+n%10)]:=by rw[Lib.decDigits,dif_neg y,zax]
   have q:=zh l;clear l
   have hS:¬9223372036854775807<(bstr (Lib.decDigits (n/10))).size+(bstr [UInt8.ofNat (48+n%10)]).size:=by
    rw[<-zaq,<-zaq,zdn,zdn,Lib.decDigits_length];have:=Lib.nDigits_le20 (n/10) (by omega);simp only[yB,yL];omega
   generalize bstr [UInt8.ofNat (48+n%10)]=C at *
   generalize bstr (Lib.decDigits (n/10))=D at *
   have L:n%10<10:=Nat.mod_lt _ (by omega);have U:n/10<=9223372036854775807:=by omega
   generalize n/10=d at *
   generalize n%10=r at *
   have T:IntKind.u8.wrap (48+(r:Int))=48+r:=by simp[IntKind.wrap,IntKind.bits,IntKind.signed];omega
   have J:IntKind.i64.wrap (d:Int)=d:=by simp[IntKind.wrap,IntKind.bits,IntKind.signed];omega
   have M:IntKind.i64.wrap (r:Int)=r:=by simp[IntKind.wrap,IntKind.bits,IntKind.signed];omega
   have P:IntKind.i64.wrap (48+(r:Int))=48+r:=by simp[IntKind.wrap,IntKind.bits,IntKind.signed];omega
   go_enter Tryz.func122,Tryz.ntmps122
   go_wp2_with fail
   refine wp_region_rel [some (.int .i64 n),some (.int .i64 d),some (.string D),some (.int .i64 n),some (.int .i64 r),some (.int .i64 (48+r)),some (.int .u8 (48+r)),none,some (.string C),some (.string (D++C)),some (.string (D++C))] (rdcDigit (48+r)) (by kernel_rfl) (by kernel_rfl) rfl ?hst ?hconst ?hs ?hf
   case hst =>
    intro j v w w' h f B;obtain⟨g,N,H⟩:=h B;exact⟨g,N,Below.keep f H⟩
   case hconst =>
    intro j v w h B;subst B;simp at h
   case hf =>
    intro X i f _;simp only[zfb,zos,zob,zoc,zot,Nat.reduceAdd,Act.put,zs1,zs3,zs2];have z:Hid (Below w.heap.size w i):=zh ⟨f.os,f.tape,f.output,f.size,f.block⟩;clear f;go_wp2_with fail
    go_ret;exact⟨by rw[q.out];rfl,z.out⟩
   case hs =>
    simp only[zfb,zos,zob,zoc,zot,Nat.reduceAdd,Act.put,zs1,zs3,zs2];refine stepsRel.cons ?_ (stepsRel.cons ?_ (stepsRel.cons ?_ (stepsRel.cons ?_ (stepsRel.cons ?_ (stepsRel.cons ?_ (stepsRel.cons ?_ (stepsRel.cons ?_ (stepsRel.cons ?_ (stepsRel.cons ?_ (stepsRel.cons ?_ stepsRel.nil))))))))))
    ·intro X i f hp;clear hp;go_wp2_with fail
     exact⟨⟨_,rfl,rfl⟩,yR _ _⟩
    ·intro X i f hp;clear hp;go_wp2_with fail
     exact⟨⟨_,rfl,rfl⟩,yR _ _⟩
    ·intro X i f hp;clear hp;go_wp2_with fail
     go_at_call 122;refine(Q.out _).mono ?_;rintro R S⟨rfl,u⟩;have A:=zh u;clear u;go_wp2_with fail
     exact⟨⟨_,rfl,rfl⟩,A.out⟩
    ·intro X i f hp;clear hp;go_wp2_with fail
     exact⟨⟨_,rfl,rfl⟩,yR _ _⟩
    ·intro X i f hp;clear hp;go_wp2_with fail
     exact⟨⟨_,rfl,rfl⟩,yR _ _⟩
    ·intro X i f hp;clear hp;go_wp2_with fail
     exact⟨⟨_,rfl,rfl⟩,yR _ _⟩
    ·intro X i f hp;clear hp;go_wp2_with fail
     exact⟨⟨_,rfl,rfl⟩,yR _ _⟩
    ·intro X i f hp;clear hp;go_wp2_with fail
     refine⟨⟨_,rfl,?_⟩,(yR _ _).alloc (zr _) _⟩;intro _;exact⟨_,rfl,by rw[World.cell?_alloc_new];rfl⟩
    ·intro X i f hp;obtain⟨g,e,I⟩:=hp 7 (by kernel_rfl) rfl;rw[e];have k1:=K.out i g I;go_wp2_with fail
     exact⟨⟨_,rfl,rfl⟩,yR _ _⟩
    ·intro X i f hp;clear hp;go_wp2_with fail
     exact⟨⟨_,rfl,rfl⟩,yR _ _⟩
    ·intro X i f hp;clear hp;go_wp2_with fail
     exact⟨⟨_,rfl,rfl⟩,yR _ _⟩
theorem decimal_any(n:Nat)(w:World)(d:n<=9223372036854775807):Calls Tryz.prog 122 #[.int .i64 n] w (TxtE (Lib.decDigits n) w):=rdc_calls n n w (zr _) d

theorem cnt_ne{k a:Nat}{q:Bool}(h:decide (k=a)=q)(m:Int)(d:(a:Int)=m):((k:Int) != m) = !q:=by
 rw[<-h,<-d,Bool.eq_iff_iff,bne_iff_ne,Bool.not_eq_true',decide_eq_false_iff_not];omega
theorem headE_in{op n:Int}{name:List UInt8}{len:Nat}(h:1<=op/\op<=24):zbN op n name len=(decide (len=zb9 op)&&((if op=2 then zaP name else decide (name=[]))&&(if op=1 then decide (0<=n) else if op=3 then decide (1<=n/\n<=10) else decide (n=0)))):=by
 unfold zbN;rw[decide_eq_true h,Bool.true_and]
theorem fine_step (d:Nat) (hd:d<=40) (ih:∀ (op n:Int) (name:List UInt8) (args:List Ex) (v:Value) (w:World) (B:Nat),okE (.mk op n name args)->EsL w B args v->B<=w.heap.size->Calls Tryz.prog 76 #[.agg #[.int .u8 op,.int .i64 n,.string (bstr name),v],.int .i64 d] w (zbe (zbd d (.mk op n name args)) w))
  (op n:Int) (name:List UInt8) (args:List Ex) (v:Value) (w:World) (B:Nat) (ai:okE (.mk op n name args)) (hL:EsL w B args v) (hB:B<=w.heap.size) :
  Calls Tryz.prog 76 #[.agg #[.int .u8 op,.int .i64 n,.string (bstr name),v],.int .i64 ((d:Int)+1)] w (zbe (zbd (d+1) (.mk op n name args)) w):=by
 obtain⟨a,cap,rfl,ao,an⟩:=hL.form;have ak:=zh ih;have HL:=zh hL;obtain⟨-,-,-,M⟩:=ai;have Y:=zh M;have E:Hid (∀w:World,_):=zh (fun w:World=>zfU name w);obtain⟨I,af,W,ab⟩:∃I,I=w.alloc (.cells #[.int .u8 op,.int .i64 n,.string (bstr name),.slice a args.length cap] 29)/\OwnV I w.heap.size 29 [.int .u8 op,.int .i64 n,.string (bstr name),.slice a args.length cap]/\Below w.heap.size w I:=⟨_,rfl,OwnV.new _ _ _,(yR _ _).alloc (zr _) _⟩;have T:=zh af;have l:=zh ab;have f:Hid (Below I.heap.size I I):=zh (yR _ _);have A:=zh W;obtain⟨L,K,O,N⟩:=yc4 A.out;obtain⟨g,H⟩:∃q,zbd (d+1) (.mk op n name args)=q:=⟨_,rfl⟩;have m:Hid (g=(zbN op n name args.length&&args.all (zbd d))):=zh (by rw[<-H,zbd]);rw[H];have av:((d:Int)+1==0)=false:=by rw[beq_eq_false_iff_ne];omega
 clear ab W af hL M ih H;by_cases hg:1<=op/\op<=24
 ·obtain ⟨qm,J⟩:∃ q,Hid (decide (args.length=zb9 op)=q):=⟨_,zh rfl⟩;obtain ⟨qn,z⟩:∃ q,Hid ((if op=2 then zaP name else decide (name=[]))=q):=⟨_,zh rfl⟩;obtain ⟨qc,C⟩:∃ q,Hid ((if op=1 then decide (0<=n) else if op=3 then decide (1<=n/\n<=10) else decide (n=0))=q):=⟨_,zh rfl⟩;replace m:Hid (g=((qm && (qn && qc)) && args.all (zbd d))):=zh (by rw [m.out,headE_in hg,J.out,z.out,C.out]);have Hm:=zh (cnt_ne J.out);rcases (show op=1∨op=2∨op=3∨op=4∨op=5∨6<=op/\op<=9∨10<=op/\op<=24 by omega) with u | u | u | u | u | u | u
  all_goals
   have g1:¬op<1:=by omega
   have g2:¬24<op:=by omega
   first|have g3:op<10:=by omega|have g3:¬op<10:=by omega
   first|have e1:(op==1)=true:=by rw[beq_iff_eq];omega|have e1:(op==1)=false:=by rw[beq_eq_false_iff_ne];omega
   first|have U:(op==2)=true:=by rw[beq_iff_eq];omega|have U:(op==2)=false:=by rw[beq_eq_false_iff_ne];omega
   first|have e3:(op==3)=true:=by rw[beq_iff_eq];omega|have e3:(op==3)=false:=by rw[beq_eq_false_iff_ne];omega
   first|have e4:(op==4)=true:=by rw[beq_iff_eq];omega|have e4:(op==4)=false:=by rw[beq_eq_false_iff_ne];omega
   first|have e5:(op==5)=true:=by rw[beq_iff_eq];omega|have e5:(op==5)=false:=by rw[beq_eq_false_iff_ne];omega
   first|have n1:(op != 1)=true:=by rw[bne_iff_ne];omega|have n1:(op != 1)=false:=by rw[bne_eq_false_iff_eq];omega
   first|have n2:(op != 2)=true:=by rw[bne_iff_ne];omega|have n2:(op != 2)=false:=by rw[bne_eq_false_iff_eq];omega
   first|have n3:(op != 3)=true:=by rw[bne_iff_ne];omega|have n3:(op != 3)=false:=by rw[bne_eq_false_iff_eq];omega
   first|rw[yP (by omega)] at z;rw[z.out] at E|rw[yN (by omega)] at z
   first|rw[yP (by omega)] at C|rw[yN (by omega),yP (by omega)] at C|rw[yN (by omega),yN (by omega)] at C
   first|have R:zb9 op=0:=by unfold zb9;split <;>(try split) <;> omega|have R:zb9 op=1:=by unfold zb9;split <;>(try split) <;> omega|have R:zb9 op=2:=by unfold zb9;split <;>(try split) <;> omega
   first|have D:=Hm.out 0 (by rw[R];rfl)|have D:=Hm.out 1 (by rw[R];rfl)|have D:=Hm.out 2 (by rw[R];rfl)
   rw[R] at J;clear hg u Hm R;go_enter Tryz.func76,Tryz.ntmps76
   go_upto_region 1 with(fail)
   rw[<-T.out];clear T;go_upto_region 8 with(fail)
   simp only[List.append_eq,List.cons_append,List.nil_append]
   cases qm with
   | false =>
    replace D:_=true:=D;have y:Hid (g=false):=zh (by simpa using m.out);clear m;go_wp2_with (go_at_call 22;refine(E.out _).mono ?_;rintro U w2⟨rfl,j⟩;have f:=zh (f.out.trans (j.mono f.out.size));clear j L K O N;obtain⟨L,K,O,N⟩:=yc4 (A.out.below f.out (zr _)))
    go_ret
    exact⟨retb (a:=false) y.out.symm,l.out.trans (f.out.mono l.out.size)⟩
   | true =>
    replace D:_=false:=D;have Hl:=zh (of_decide_eq_true J.out)
    cases qn with
    | false =>
     try have hs:¬(bstr name).toList=[]:=fun h=>of_decide_eq_false z.out (str_nil.1 h)
     have y:Hid (g=false):=zh (by simpa using m.out);clear m;go_wp2_with (go_at_call 22;refine(E.out _).mono ?_;rintro U w2⟨rfl,j⟩;have f:=zh (f.out.trans (j.mono f.out.size));clear j L K O N;obtain⟨L,K,O,N⟩:=yc4 (A.out.below f.out (zr _)))
     go_ret
     exact⟨retb (a:=false) y.out.symm,l.out.trans (f.out.mono l.out.size)⟩
    | true =>
     try have hs:(bstr name).toList=[]:=str_nil.2 (of_decide_eq_true z.out)
     cases qc with
     | false =>
      have hz:=of_decide_eq_false C.out;try have z0:n<0:=by omega
      try have z3:(n != 0)=true:=by rw[bne_iff_ne];omega
      have y:Hid (g=false):=zh (by simpa using m.out);clear m;by_cases z1:n<1
      all_goals first|omega|skip
      all_goals
       try have z2:10<n:=by omega
       go_wp2_with (go_at_call 22;refine(E.out _).mono ?_;rintro U w2⟨rfl,j⟩;have f:=zh (f.out.trans (j.mono f.out.size));clear j L K O N;obtain⟨L,K,O,N⟩:=yc4 (A.out.below f.out (zr _)))
       go_ret
       exact⟨retb (a:=false) y.out.symm,l.out.trans (f.out.mono l.out.size)⟩
     | true =>
      have hz:=of_decide_eq_true C.out;have z0:¬n<0:=by omega
      try have z1:¬n<1:=by omega
      try have z2:¬10<n:=by omega
      try have z3:(n != 0)=false:=by rw[bne_eq_false_iff_eq];omega
      replace m:Hid (g=args.all (zbd d)):=zh (by rw[m.out];rfl);clear hz;go_upto_region 10 with(go_at_call 22;refine(E.out _).mono ?_;rintro U w2⟨rfl,j⟩;have f:=zh (f.out.trans (j.mono f.out.size));clear j L K O N;obtain⟨L,K,O,N⟩:=yc4 (A.out.below f.out (zr _)))
      go_wp2_with fail
      go_loopw [4,6,106,107,108,109,110,111,112,113,114,115,116,117,118,119] (fun _ t6 _ _ _ _ _ _ _ _ _ _ _ _ _ _ wr=>∃(k:Nat),k<=args.length/\t6=.int .i64 k/\Hid ((args.take k).all (zbd d)=true)/\Hid (Below I.heap.size I wr)) (fun _ t6 _ _ _ _ _ _ _ _ _ _ _ _ _ _ _=>args.length-(intOf t6).toNat)
      case atStart=>exact⟨0,by omega,by first|rfl|go_num,zh (by simp),f⟩
      case round =>
       obtain⟨k,hk,rfl,HA,V⟩:=hrel;have aw:=(A.out.below V.out (zr _)).cell (i:=3) rfl;have X:=Hl.out;first|have k0:(k:Int)<0:=by omega|have k0:¬(k:Int)<0:=by omega
       by_cases am:k<args.length
       ·first|omega|skip
        all_goals
         try have k1:(k:Int)<1:=by omega
         try have k2:(k:Int)<2:=by omega
         have ag:EsL wr B args (.slice a args.length cap):=HL.out.low ((l.out.mono hB).trans (V.out.mono (yT hB l.out.size)));obtain⟨b,ar,ae,n2,F,G,aa,ac,rfl,aq,au,Q,c0,c1,c2,c3,ad⟩:=ag.at am;have HI:=zh (ak.out ae n2 F G _ wr B (zgR Y.out Q) ad (yT hB (yT l.out.size V.out.size)));have P:=zh (all_take Q HA.out)
         generalize zbd d (.mk ae n2 F G)=q at *
         have ap:(k:Int)<(args.length:Int):=by omega
         clear ag Q ad X;go_wp2_with fail
         refine HI.out.mono ?_;rintro U w2⟨rfl,j⟩;have Z:=zh (V.out.trans (j.mono V.out.size));clear j
         cases q with
         | false =>
          have S:Hid (g=false):=zh (by rw[m.out,P.out.2 rfl]);clear m;go_wp2_with fail
          go_ret
          exact⟨retb (a:=false) S.out.symm,l.out.trans (Z.out.mono l.out.size)⟩
         | true =>
          have aj:=zh (P.out.1 rfl);clear P;go_wp2_with fail
          go_roundw
          case rel=>exact⟨k+1,by omega,by go_num,aj,Z⟩
          case measure=>simp[intOf];omega
       ·try have k1:¬(k:Int)<1:=by omega
        try have k2:¬(k:Int)<2:=by omega
        have ah:k=args.length:=by omega
        have S:Hid (g=true):=zh (by have:=HA.out;rw[ah,List.take_length] at this;rw[m.out,this]);clear m X;go_wp2_with fail
        go_ret;exact⟨retb (a:=true) S.out.symm,l.out.trans (V.out.mono l.out.size)⟩
 ·have y:Hid (g=false):=zh (by rw[m.out,headE_G _ _ _ _ hg];rfl);clear m;by_cases h1:op<1
  all_goals
   try have h2:24<op:=by omega
   go_enter Tryz.func76,Tryz.ntmps76
   go_upto_region 1 with(fail)
   rw[<-T.out];go_wp2_with fail
   go_ret;exact⟨retb (a:=false) y.out.symm,l.out⟩
theorem fine_any:∀(d:Nat),d<=41->∀(op n:Int) (name:List UInt8) (args:List Ex) (v:Value) (w:World) (B:Nat),okE (.mk op n name args)->EsL w B args v->B<=w.heap.size ->
  Calls Tryz.prog 76 #[.agg #[.int .u8 op,.int .i64 n,.string (bstr name),v],.int .i64 d] w (zbe (zbd d (.mk op n name args)) w):=by
 intro d
 induction d with
 | zero =>
  intro _ op n name args v w B _ f _;obtain⟨a,cap,rfl,i,j⟩:=f.form;clear f;go_enter Tryz.func76,Tryz.ntmps76
  go_wp2_with fail
  go_ret
  exact⟨rfl,(yR _ _).alloc (zr _) _⟩
 | succ d ih =>
  intro m op n name args v w B g f l;rw[show((d+1:Nat):Int)=(d:Int)+1 from Int.natCast_succ d];exact fine_step d (by omega) (ih (by omega)) op n name args v w B g f l
end Go.Proofs.YtoaojdobjinhfaaGreatDoor
