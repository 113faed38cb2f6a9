/- marcheslaw12.shows and ParseShows, walked. -/
import Derived.Test.YtoaojdobjinhfaaGreatDoorRWrDPz
import Derived.Lib.SmallJoins
import Derived.Deep.Slices
import Derived.OpenShut
import Derived.LaidLaws
import Derived.LaidMore
import Derived.Lay
import Derived.LaidHandle
import Derived.Stop.Joined
import Derived.Stop.LaidErr
import Derived.ChangeArms
set_option linter.unusedSimpArgs false
set_option linter.unusedVariables false
set_option maxRecDepth 100000
set_option maxHeartbeats 16000000
namespace Go.Proofs.YtoaojdobjinhfaaGreatDoor
open Go.RowKit

theorem shows_any{op n:Int}{name:List UInt8}{args:List Ex}{v:Value}{w:World}{B:Nat}(f:okE (.mk op n name args))(A:EsL w B args v)(z:B<=w.heap.size)(K:Glob w) :
  Calls Tryz.prog 20 #[.agg #[.int .u8 op,.int .i64 n,.string (bstr name),v]] w (YesE w):=by
 have D:=K.size;obtain⟨a,cap,rfl,O,P⟩:=A.form;obtain⟨m,y,d,j⟩:∃m,m=w.alloc (.cells #[.int .u8 op,.int .i64 n,.string (bstr name),.slice a args.length cap] 29)/\Below w.heap.size w m/\OwnV m w.heap.size 29 [.int .u8 op,.int .i64 n,.string (bstr name),.slice a args.length cap]:=⟨_,rfl,(yR _ _).alloc (zr _) _,OwnV.new _ _ _⟩;have N:=zh (zdO (w:=m) (K.below d D) f (A.low (d.mono z)) (yT z d.size));have M:Hid (∀W,Below w.heap.size w W->Calls Tryz.prog 45 #[.agg #[.int .u8 op,.int .i64 n,.string (bstr name),.slice a args.length cap]] W (zks (zbK (.mk op n name args)) W)):=zh (fun W hb=>refExprText_any f (A.low (hb.mono z)) (yT z hb.size));unfold zks at N M
 generalize (zbK (.mk op n name args)).2=C at *
 generalize bstr (zbK (.mk op n name args)).1=S at *
 have I:=zh y;have q:=zh d;have H:=zh j;obtain⟨J,L,G,E⟩:=yc4 j;clear y d j K f A;go_enter Tryz.func20,Tryz.ntmps20
 go_upto_region 1 with(fail)
 rw[<-I.out];go_wp2_with fail
 go_at_call 33;refine N.out.mono ?_;rintro R T⟨rfl,i⟩;have g:=zh (q.out.trans (i.mono q.out.size));have l:=H.out.below i (zr _);clear i J L G E;obtain⟨J,L,G,E⟩:=yc4 l;clear l;go_wp2_with fail
 go_at_call 45;refine(M.out _ g.out).mono ?_;rintro Q w2⟨rfl,u⟩;have F:=zh (g.out.trans (u.mono g.out.size));clear u J L G E;go_wp2_with fail
 exact yE (v:=.bool true) (by simp[results,Tryz.results20,go_sem]) rfl ⟨rfl,F.out⟩

theorem headT_ref{op n:Int}{name:List UInt8}{le lb d:Nat}(h:1<=op/\op<=7):zbA op n name le lb d=(decide (le=zfg op)&&((if op<=2 then zaP name else decide (name=[]))&&((if op=3 then decide (1<=n/\n<=10) else decide (n=0))&&decide ((lb=0∨op=4∨op=5)/\(d=0∨op=4))))):=by
 unfold zbA;rw[decide_eq_true h,Bool.true_and,<-Bool.decide_and]
theorem right_step (d:Nat) (hd:d<=40) (ih:∀ (l:List St) (v:Value) (w:World) (B:Nat),okSs l->SsL w B l v->B<=w.heap.size->Calls Tryz.prog 75 #[v,.int .i64 d] w (zbe (zaJ d l) w))
  (l:List St) (v:Value) (w:World) (B:Nat) (aD:okSs l) (hL:SsL w B l v) (hB:B<=w.heap.size) :
  Calls Tryz.prog 75 #[v,.int .i64 ((d:Int)+1)] w (zbe (zaJ (d+1) l) w):=by
 obtain⟨a,cap,rfl,bc,bb⟩:=hL.form;have aG:=zh ih;have HL:=zh hL;have ay:=zh aD;obtain⟨f,S⟩:∃q,zaJ (d+1) l=q:=⟨_,rfl⟩;have HF:Hid (f=l.all (zh2 d)):=zh (by rw[<-S,zfn]);rw[S];have bn:((d:Int)+1==0)=false:=by rw[beq_eq_false_iff_ne];omega
 clear aD hL ih S;go_enter Tryz.func75,Tryz.ntmps75
 go_wp2_with fail
 go_loopw [4,5,6,7,8,9,10,11,12,13,14,15,16,17,18,19,20,21,22,23,24,25,26,27,28,29,30,31,32,33,34,35,36,37,38,39,40,41,42,43,44,45,46,47,48,49,50,51,52,53,54,55,56,57,58,59,60,61,62,63,64,65,66,67,68,69,70,71,72,73,74,75,76,77,78,79,80,81,82,83,84,85,86,87,88,89,90,91,92,93,94,95,96,97,98,99,100,101,102,103,104,105,106,107,108,109,110,111,112,113,114,115,116,117,118,119,120,121,122,123,124,125,126,127,128,129,130,131,132,133,134,135,136,137,138,139,140,141,142] (fun _ t5 _ _ _ _ _ _ _ _ _ _ _ _ _ _ _ _ _ _ _ _ _ _ _ _ _ _ _ _ _ _ _ _ _ _ _ _ _ _ _ _ _ _ _ _ _ _ _ _ _ _ _ _ _ _ _ _ _ _ _ _ _ _ _ _ _ _ _ _ _ _ _ _ _ _ _ _ _ _ _ _ _ _ _ _ _ _ _ _ _ _ _ _ _ _ _ _ _ _ _ _ _ _ _ _ _ _ _ _ _ _ _ _ _ _ _ _ _ _ _ _ _ _ _ _ _ _ _ _ _ _ _ _ _ _ _ _ _ wr=>∃(k:Nat),k<=l.length/\t5=.int .i64 k/\Hid ((l.take k).all (zh2 d)=true)/\Hid (Below w.heap.size w wr)) (fun _ t5 _ _ _ _ _ _ _ _ _ _ _ _ _ _ _ _ _ _ _ _ _ _ _ _ _ _ _ _ _ _ _ _ _ _ _ _ _ _ _ _ _ _ _ _ _ _ _ _ _ _ _ _ _ _ _ _ _ _ _ _ _ _ _ _ _ _ _ _ _ _ _ _ _ _ _ _ _ _ _ _ _ _ _ _ _ _ _ _ _ _ _ _ _ _ _ _ _ _ _ _ _ _ _ _ _ _ _ _ _ _ _ _ _ _ _ _ _ _ _ _ _ _ _ _ _ _ _ _ _ _ _ _ _ _ _ _ _ _=>l.length-(intOf t5).toNat)
 case atStart=>exact⟨0,by omega,by first|rfl|go_num,zh (by simp),zh (yR _ _)⟩
 case round =>
  obtain⟨D,rfl⟩:∃D:World,D=wr:=⟨_,rfl⟩;obtain⟨k,hk,rfl,HA,L⟩:=hrel;by_cases a2:k<l.length
  ·have a5:(k:Int) < (l.length:Int):=by omega
   have bj:(l.length:Int)<=9223372036854775807:=by omega
   have g:=L.out.size;have aN:SsL D B l (.slice a l.length cap):=HL.out.low (L.out.mono hB);obtain⟨b,bi,op,n,name,es,body,els,ae,ce,ab,cb,al,cl,rfl,bh,bm,am,c0,c1,c2,c3,c4,c5,hE,ap,aq⟩:=aN.at a2;obtain⟨-,-,-,ah,af,ag⟩:=znr ay.out am;have ai:=zh (all_take am HA.out);have C:Hid (zh2 d (.mk op n name es body els)=((zaJ d body&&zaJ d els)&&(zbA op n name es.length body.length els.length&&es.all (zbd 40)))):=zh rfl
   generalize zh2 d (.mk op n name es body els)=q at *
   have aR:Hid (∀(w':World),Below D.heap.size D w'->Calls Tryz.prog 75 #[.slice ab body.length cb,.int .i64 d] w' _):=zh (fun w' hb=>aG.out body _ w' B af (ap.low (hb.mono (yT hB g))) (yT hB (yT g hb.size)));have aT:Hid (∀(w':World),Below D.heap.size D w'->Calls Tryz.prog 75 #[.slice al els.length cl,.int .i64 d] w' _):=zh (fun w' hb=>aG.out els _ w' B ag (aq.low (hb.mono (yT hB g))) (yT hB (yT g hb.size)))
   generalize zaJ d body=qb at *
   generalize zaJ d els=ql at *
   have HE:Hid (∀(w':World),Below D.heap.size D w'->EsL w' B es (.slice ae es.length ce)):=zh (fun w' hb=>hE.low (hb.mono (yT hB g)));have aZ:=hE.form;obtain⟨_,_,_,ba,a0⟩:=aZ;obtain⟨_,_,_,a7,a3⟩:=ap.form;obtain⟨_,_,_,a9,aU⟩:=aq.form;have a4:Hid (∀(op n:Int) (name:List UInt8) (args:List Ex) (v:Value) (w':World),okE (.mk op n name args)->EsL w' B args v->B<=w'.heap.size->Calls Tryz.prog 76 #[.agg #[.int .u8 op,.int .i64 n,.string (bstr name),v],.int .i64 40] w' _):=zh (fun op n name args v w' h1 h2 h3=>fine_any 40 (by omega) op n name args v w' B h1 h2 h3);have aJ:=zh ah;have G:Hid (∀w:World,_):=zh (fun w:World=>zfU name w);obtain⟨W1,aL,X,aA⟩:∃W1,W1=D.alloc (.cells #[.int .u8 op,.int .i64 n,.string (bstr name),.slice ae es.length ce,.slice ab body.length cb,.slice al els.length cl] 56)/\OwnV W1 D.heap.size 56 [.int .u8 op,.int .i64 n,.string (bstr name),.slice ae es.length ce,.slice ab body.length cb,.slice al els.length cl]/\Below D.heap.size D W1:=⟨_,rfl,OwnV.new _ _ _,(yR _ _).alloc (zr _) _⟩;have ad:=zh aA;have aP:=zh X;have aK:=zh aL;have K:=X.cell (i:=0) rfl;have I:=X.cell (i:=4) rfl;have A:Hid (q=false->f=false):=zh (fun h=>by rw[HF.out,ai.out.2 h]);clear aN hE ap aq ah af ag am aL X aA;by_cases aH:1<=op/\op<=7
   ·obtain⟨a1,a6⟩:=aH;go_upto_region 5 with(fail)
    rw[<-aK.out];go_wp2_with fail
    refine(aR.out _ ad.out).mono ?_;rintro e2 w2⟨rfl,ao⟩;have aI:=zh (aP.out.below ao (zr _));have Y:=zh (ad.out.trans (ao.mono ad.out.size));have J:=aI.out.cell (i:=5) rfl;clear ao K I
    cases qb with
    | false =>
     have z:Hid (f=false):=zh (A.out (by rw[C.out,Bool.false_and,Bool.false_and]));go_wp2_with fail
     go_ret
     exact⟨retb (a:=false) z.out.symm,L.out.trans (Y.out.mono g)⟩
    | true =>
    go_wp2_with fail
    refine(aT.out _ Y.out).mono ?_;rintro e3 w3⟨rfl,av⟩;have y:=zh (aI.out.below av (zr _));have m:=zh (Y.out.trans (av.mono Y.out.size));clear av J
    cases ql with
    | false =>
     have z:Hid (f=false):=zh (A.out (by rw[C.out,Bool.and_false,Bool.false_and]));go_wp2_with fail
     go_ret
     exact⟨retb (a:=false) z.out.symm,L.out.trans (m.out.mono g)⟩
    | true =>
    obtain⟨K,U,W,V,I,J⟩:=yc6 y.out;obtain⟨qm,Z⟩:∃q,Hid (decide (es.length=zfg op)=q):=⟨_,zh rfl⟩;obtain⟨qn,F⟩:∃q,Hid ((if op<=2 then zaP name else decide (name=[]))=q):=⟨_,zh rfl⟩;obtain⟨qc,Q⟩:∃q,Hid ((if op=3 then decide (1<=n/\n<=10) else decide (n=0))=q):=⟨_,zh rfl⟩;obtain⟨qp,an⟩:∃q,Hid (decide ((body.length=0∨op=4∨op=5)/\(els.length=0∨op=4))=q):=⟨_,zh rfl⟩;replace C:Hid (q=((qm&&(qn&&(qc&&qp)))&&es.all (zbd 40))):=zh (by rw[C.out,headT_ref ⟨a1,a6⟩,Z.out,F.out,Q.out,an.out];rfl);have Hm:=zh (cnt_ne Z.out);go_upto_region 7 with(fail)
    rcases(show op<=2∨op=3∨op=4∨op=5∨6<=op by omega) with hc|hc|hc|hc|hc
    all_goals
     first|have e3:(op==3)=true:=by rw[beq_iff_eq];omega|have e3:(op==3)=false:=by rw[beq_eq_false_iff_ne];omega
     first|have m3:(op != 3)=true:=by rw[bne_iff_ne];omega|have m3:(op != 3)=false:=by rw[bne_eq_false_iff_eq];omega
     first|have m4:(op != 4)=true:=by rw[bne_iff_ne];omega|have m4:(op != 4)=false:=by rw[bne_eq_false_iff_eq];omega
     first|have m5:(op != 5)=true:=by rw[bne_iff_ne];omega|have m5:(op != 5)=false:=by rw[bne_eq_false_iff_eq];omega
     first|have g5:op<=5:=by omega|have g5:5<op:=by omega
     first|have g2:op<=2:=by omega|have g2:2<op:=by omega
     first|rw[yP (by omega)] at F;rw[F.out] at G|rw[yN (by omega)] at F
     first|rw[yP (by omega)] at Q|rw[yN (by omega)] at Q
     first|have hm:zfg op=0:=by unfold zfg;split <;>(try split) <;> omega|have hm:zfg op=1:=by unfold zfg;split <;>(try split) <;> omega|have hm:zfg op=2:=by unfold zfg;split <;>(try split) <;> omega
     first|have H:=Hm.out 0 (by rw[hm];rfl)|have H:=Hm.out 1 (by rw[hm];rfl)|have H:=Hm.out 2 (by rw[hm];rfl)
     rw[hm] at Z;have aM:=zh hc;clear Hm hm hc;go_upto_region 12 with(fail)
     simp only[List.append_eq,List.cons_append,List.nil_append]
     cases qm with
     | false =>
      replace H:_=true:=H;have z:Hid (f=false):=zh (A.out (by simpa using C.out));clear C;go_wp2_with (go_at_call 22;refine(G.out _).mono ?_;rintro e4 w4⟨rfl,u⟩;have m:=zh (m.out.trans (u.mono m.out.size));have y:=zh (y.out.below u (zr _));clear u K U W V I J;obtain⟨K,U,W,V,I,J⟩:=yc6 y.out)
      go_ret
      exact⟨retb (a:=false) z.out.symm,L.out.trans (m.out.mono g)⟩
     | true =>
     replace H:_=false:=H;have Hl:=zh (of_decide_eq_true Z.out)
     cases qn with
     | false =>
      try have hs:¬(bstr name).toList=[]:=fun h=>of_decide_eq_false F.out (str_nil.1 h)
      have z:Hid (f=false):=zh (A.out (by simpa using C.out));clear C;go_wp2_with (go_at_call 22;refine(G.out _).mono ?_;rintro e4 w4⟨rfl,u⟩;have m:=zh (m.out.trans (u.mono m.out.size));have y:=zh (y.out.below u (zr _));clear u K U W V I J;obtain⟨K,U,W,V,I,J⟩:=yc6 y.out)
      go_ret
      exact⟨retb (a:=false) z.out.symm,L.out.trans (m.out.mono g)⟩
     | true =>
     try have hs:(bstr name).toList=[]:=str_nil.2 (of_decide_eq_true F.out)
     cases qc with
     | false =>
      have hz:=of_decide_eq_false Q.out;try have z3:(n != 0)=true:=by rw[bne_iff_ne];omega
      have z:Hid (f=false):=zh (A.out (by simpa using C.out));clear C;by_cases z1:n<1
      all_goals first|omega|skip
      all_goals
       try have z2:10<n:=by omega
       go_wp2_with (go_at_call 22;refine(G.out _).mono ?_;rintro e4 w4⟨rfl,u⟩;have m:=zh (m.out.trans (u.mono m.out.size));have y:=zh (y.out.below u (zr _));clear u K U W V I J;obtain⟨K,U,W,V,I,J⟩:=yc6 y.out)
       go_ret
       exact⟨retb (a:=false) z.out.symm,L.out.trans (m.out.mono g)⟩
     | true =>
     have hz:=of_decide_eq_true Q.out;try have z1:¬n<1:=by omega
     try have z2:¬10<n:=by omega
     try have z3:(n != 0)=false:=by rw[bne_eq_false_iff_eq];omega
     clear hz
     cases qp with
     | false =>
      have hp:=of_decide_eq_false an.out;have ak:=aM.out;have z:Hid (f=false):=zh (A.out (by simpa using C.out));clear C;by_cases aX:0<body.length
      all_goals
       first|have M:(body.length:Int)>0:=by omega|have M:¬(body.length:Int)>0:=by omega
       first|have aj:0<els.length:=by omega|have aj:¬0<els.length:=by omega|by_cases aj:0<els.length
      all_goals
       first|have N:(els.length:Int)>0:=by omega|have N:¬(els.length:Int)>0:=by omega
       first|omega|skip
      all_goals
       clear ak hp;go_wp2_with (go_at_call 22;refine(G.out _).mono ?_;rintro e4 w4⟨rfl,u⟩;have m:=zh (m.out.trans (u.mono m.out.size));have y:=zh (y.out.below u (zr _));clear u K U W V I J;obtain⟨K,U,W,V,I,J⟩:=yc6 y.out)
       go_ret
       exact⟨retb (a:=false) z.out.symm,L.out.trans (m.out.mono g)⟩
     | true =>
     have hp:=of_decide_eq_true an.out;have ak:=aM.out;replace C:Hid (q=es.all (zbd 40)):=zh (by rw[C.out];rfl);by_cases aX:0<body.length
     all_goals
      first|have M:(body.length:Int)>0:=by omega|have M:¬(body.length:Int)>0:=by omega
      by_cases aj:0<els.length
     all_goals
      first|have N:(els.length:Int)>0:=by omega|have N:¬(els.length:Int)>0:=by omega
      first|omega|skip
     all_goals
      clear ak hp;go_upto_region 14 with(go_at_call 22;refine(G.out _).mono ?_;rintro e4 w4⟨rfl,u⟩;have m:=zh (m.out.trans (u.mono m.out.size));have y:=zh (y.out.below u (zr _));clear u K U W V I J;obtain⟨K,U,W,V,I,J⟩:=yc6 y.out)
      go_wp2_with fail
      go_loopw [4,8,131,132,133,134,135,136,137,138,139,140,141,142] (fun _ t8 _ _ _ _ _ _ _ _ _ _ _ _ wr=>∃(j:Nat),j<=es.length/\t8=.int .i64 j/\Hid ((es.take j).all (zbd 40)=true)/\Hid (Below D.heap.size D wr)/\Hid (OwnV wr D.heap.size 56 [.int .u8 op,.int .i64 n,.string (bstr name),.slice ae es.length ce,.slice ab body.length cb,.slice al els.length cl])) (fun _ t8 _ _ _ _ _ _ _ _ _ _ _ _ _=>es.length-(intOf t8).toNat)
      case atStart=>exact⟨0,by omega,by first|rfl|go_num,zh (by simp),m,y⟩
      case round =>
       obtain⟨j,hj,rfl,aE,O,az⟩:=hrel;have bo:=az.out.cell (i:=3) rfl;have ax:=Hl.out;first|have k0:(j:Int)<0:=by omega|have k0:¬(j:Int)<0:=by omega
       by_cases aQ:j<es.length
       ·first|omega|skip
        all_goals
         try have k1:(j:Int)<1:=by omega
         try have k2:(j:Int)<2:=by omega
         have bf:(j:Int)<(es.length:Int):=by omega
         have a8:(es.length:Int)<=9223372036854775807:=by omega
         obtain⟨be,oe,aF,n2,P,R,aa,ac,rfl,bd,bg,T,d0,d1,d2,d3,aC⟩:=(HE.out _ O.out).at aQ;have HI:=zh (a4.out aF n2 P R _ wr (zgR aJ.out T) aC (yT hB (yT g O.out.size)));have E:=zh (all_take T aE.out)
         generalize zbd 40 (.mk aF n2 P R)=qf at *
         clear T aC ax;go_wp2_with fail
         refine HI.out.mono ?_;rintro e6 w6⟨rfl,ar⟩;have aw:=zh (O.out.trans (ar.mono O.out.size));have aY:=zh (az.out.below ar (zr _));clear ar
         cases qf with
         | false =>
          have z:Hid (f=false):=zh (A.out (by rw[C.out,E.out.2 rfl]));clear E;go_wp2_with fail
          go_ret
          exact⟨retb (a:=false) z.out.symm,L.out.trans (aw.out.mono g)⟩
         | true =>
          have au:=zh (E.out.1 rfl);clear E;go_wp2_with fail
          go_roundw
          case rel=>exact⟨j+1,by omega,by go_num,au,aw,aY⟩
          case measure=>simp[intOf];omega
       ·try have k1:¬(j:Int)<1:=by omega
        try have k2:¬(j:Int)<2:=by omega
        have aO:j=es.length:=by omega
        have Hq:Hid (q=true):=zh (by have:=aE.out;rw[aO,List.take_length] at this;rw[C.out,this]);have au:=zh (ai.out.1 Hq.out);have aV:=zh (L.out.trans (O.out.mono g));clear Hq C ai A ax;go_wp2_with fail
        go_roundw
        case rel=>exact⟨k+1,by omega,by go_num,au,aV⟩
        case measure=>simp[intOf];omega
   ·have z:Hid (f=false):=zh (A.out (by rw[C.out,zk3 _ _ _ _ _ _ aH,Bool.false_and,Bool.and_false]));by_cases h1:op<1
    all_goals
     try have h2:7<op:=by omega
     go_upto_region 5 with(fail)
     rw[<-aK.out];go_wp2_with fail
     go_ret;exact⟨retb (a:=false) z.out.symm,L.out.trans ((ad.out).mono g)⟩
  ·have a5:¬(k:Int)<(l.length:Int):=by omega
   have aS:k=l.length:=by omega
   have aW:Hid (f=true):=zh (by have:=HA.out;rw[aS,List.take_length] at this;rw[HF.out,this]);clear HF;go_wp2_with fail
   go_ret;exact⟨retb (a:=true) aW.out.symm,L.out⟩
theorem right_zero(l:List St)(v:Value)(w:World)(B:Nat)(u:SsL w B l v) :
  Calls Tryz.prog 75 #[v,.int .i64 0] w (zbe (zaJ 0 l) w):=by
 obtain⟨a,cap,rfl,D,C⟩:=u.form;have L:=zh u;obtain⟨d,f⟩:∃q,zaJ 0 l=q:=⟨_,rfl⟩;have j:Hid (d=l.isEmpty):=zh (by rw[<-f,zaJ]);rw[f];clear u f;go_enter Tryz.func75,Tryz.ntmps75
 go_wp2_with fail
 go_loopw [4,5,6,7,8,9,10,11,12,13,14,15,16,17,18,19,20,21,22,23,24,25,26,27,28,29,30,31,32,33,34,35,36,37,38,39,40,41,42,43,44,45,46,47,48,49,50,51,52,53,54,55,56,57,58,59,60,61,62,63,64,65,66,67,68,69,70,71,72,73,74,75,76,77,78,79,80,81,82,83,84,85,86,87,88,89,90,91,92,93,94,95,96,97,98,99,100,101,102,103,104,105,106,107,108,109,110,111,112,113,114,115,116,117,118,119,120,121,122,123,124,125,126,127,128,129,130,131,132,133,134,135,136,137,138,139,140,141,142] (fun _ t5 _ _ _ _ _ _ _ _ _ _ _ _ _ _ _ _ _ _ _ _ _ _ _ _ _ _ _ _ _ _ _ _ _ _ _ _ _ _ _ _ _ _ _ _ _ _ _ _ _ _ _ _ _ _ _ _ _ _ _ _ _ _ _ _ _ _ _ _ _ _ _ _ _ _ _ _ _ _ _ _ _ _ _ _ _ _ _ _ _ _ _ _ _ _ _ _ _ _ _ _ _ _ _ _ _ _ _ _ _ _ _ _ _ _ _ _ _ _ _ _ _ _ _ _ _ _ _ _ _ _ _ _ _ _ _ _ _ wr=>t5=.int .i64 0/\wr=w) (fun _ _ _ _ _ _ _ _ _ _ _ _ _ _ _ _ _ _ _ _ _ _ _ _ _ _ _ _ _ _ _ _ _ _ _ _ _ _ _ _ _ _ _ _ _ _ _ _ _ _ _ _ _ _ _ _ _ _ _ _ _ _ _ _ _ _ _ _ _ _ _ _ _ _ _ _ _ _ _ _ _ _ _ _ _ _ _ _ _ _ _ _ _ _ _ _ _ _ _ _ _ _ _ _ _ _ _ _ _ _ _ _ _ _ _ _ _ _ _ _ _ _ _ _ _ _ _ _ _ _ _ _ _ _ _ _ _ _ _ _=>0)
 case atStart=>exact⟨by first|rfl|go_num,rfl⟩
 case round =>
  obtain⟨rfl,rfl⟩:=hrel;by_cases g:0<l.length
  ·have z:(0:Int)<(l.length:Int):=by omega
   obtain⟨b,F,op,n,name,es,body,els,T,S,R,Q,al,P,rfl,M,H,y,K,N,G,I,E,J,O,A,m⟩:=L.out.at g
   have i:Hid (d=false):=zh (by rw[j.out];cases l with
    | nil=>simp at g
    | cons x r=>rfl)
   rw[Nat.zero_mul,Nat.add_zero] at K N G I E J;clear j O A m y;go_wp2_with fail
   go_ret;exact⟨retb (a:=false) i.out.symm,(yR _ _).alloc (zr _) _⟩
  ·have z:¬(0:Int)<(l.length:Int):=by omega
   have i:Hid (d=true):=zh (by rw[j.out];cases l with
    | nil=>rfl
    | cons x r=>simp at g)
   clear j;go_wp2_with fail
   go_ret;exact⟨retb (a:=true) i.out.symm,yR _ _⟩
theorem right_any:∀(d:Nat),d<=41->∀(l:List St) (v:Value) (w:World) (B:Nat),okSs l->SsL w B l v->B<=w.heap.size->Calls Tryz.prog 75 #[v,.int .i64 d] w (zbe (zaJ d l) w):=by
 intro d
 induction d with
 | zero=>intro _ l v w B _ g _;exact right_zero l v w B g
 | succ d ih =>
  intro j l v w B f g i;rw[show((d+1:Nat):Int)=(d:Int)+1 from Int.natCast_succ d];exact right_step d (by omega) (ih (by omega)) l v w B f g i
theorem printable_any(l:List St)(v:Value)(w:World)(B:Nat)(d:okSs l)(f:SsL w B l v)(m:B<=w.heap.size) :
  Calls Tryz.prog 44 #[v] w (zbe (zaJ 40 l) w):=by
 have H:Hid (Calls Tryz.prog 75 #[v,.int .i64 40] w _):=zh (right_any 40 (by omega) l v w B d f m);obtain⟨a,cap,rfl,g,j⟩:=f.form
 generalize zaJ 40 l=q at *
 clear f d;go_enter Tryz.func44,Tryz.ntmps44
 go_wp2_with fail
 refine H.out.mono ?_;rintro y z⟨rfl,i⟩;have u:=zh i;clear i;go_wp2_with fail
 go_ret;exact⟨rfl,u.out⟩
open Go.ChangeShapes Go.WideShapes Go.RowKit
set_option maxRecDepth 100000

theorem ExsC.join{w:World}{P:Nat->Prop}{xs ys:List Ex}{cs d:List Value}(h:ExsC w P xs cs)(g:ExsC w P ys d):ExsC w P (xs++ys) (cs++d):=by
 induction h with
 | nil=>exact g
 | cons h1 h2 h3 _ _ ih=>exact .cons h1 h2 h3 ih
theorem StsC.join{w:World}{P:Nat->Prop}{xs ys:List St}{cs d:List Value}(h:StsC w P xs cs)(g:StsC w P ys d):StsC w P (xs++ys) (cs++d):=by
 induction h with
 | nil=>exact g
 | cons h1 h2 h3 b1 b2 b3 l1 l2 l3 _ _ _ ih=>exact .cons h1 h2 h3 b1 b2 b3 l1 l2 l3 ih
variable {H : Type} {enc : TypeId × Value -> H} {w : World} {base : Nat} {spare : Nat -> Bool} {held : Bool}
theorem own:ownKnob Tryz.prog.godebug=none:=by kernel_rfl
theorem ztz:laidOutB Tryz.prog=true:=by kernel_rfl
def zkV : List (String × DataW Unit) := Rows.parseTellsRow.laid
theorem powL:(Rows.laid_internal_strconv_uint64pow10:DataW Unit)=Lib.tabData .u64 Lib.pow10Tab:=by kernel_rfl
theorem spaceL:(Rows.laid_strings_asciiSpace:DataW Unit)=Lib.tabData .u8 spaceTab:=by kernel_rfl
theorem zgF{P:Program}{n nm:String}{d:DataW Unit}{r:List (String × DataW Unit)}{W:World}{g:Nat}{w:TypeId}{A:Array (String × TypeId)}
  (h:laidMet P ((n,.iface nm d)::r) W) (z:P.globalNamed n=some g) (ht:(P.globals[g]?).map (·.type)=some w) (hi:P.underlying w=some (.interface A)) :
  ∃tp p,W.var? P n=some #[.iface tp p]:=by
 obtain⟨C,⟨g0,t0,i,G,E,F,l,j,m,q,_,e0⟩,_,f⟩:=h;obtain rfl:=Option.some.inj (z.symm.trans l);obtain rfl:=Option.some.inj (ht.symm.trans j);obtain⟨y⟩:=i;obtain⟨D,u,v,e,_⟩:=iface_of_trod hi q;have B:y=[.iface u v]:=e;subst B;exact⟨u,v,m⟩
theorem zc8{P:Program}{W:World}{n:String}{g:Nat}{v:Value}{vs:List Value}(d:P.globalNamed n=some g)(h:W.var? P n=some (v::vs).toArray):g<W.heap.size:=by
 have:=World.var?_cell d h 0;have f:W.cell? ⟨g,0,none⟩=some v:=by simpa using this
 exact World.block_lt_of_cell? W _ f
theorem zny{W:World}(h:laidMetH Tryz.prog zkV W):Glob W:=by
 rw[MakeChecks.laidMetH_plain _ _ _ (by kernel_rfl)] at h
 have h2 : laidMet Tryz.prog (("internal/strconv.uint64pow10", Rows.laid_internal_strconv_uint64pow10) :: _) W := h.tail.tail
 have h4 : laidMet Tryz.prog (("strconv.ErrRange", Rows.laid_strconv_ErrRange) :: _) W := h2.tail.tail
 have h5 : laidMet Tryz.prog (("strconv.ErrSyntax", Rows.laid_strconv_ErrSyntax) :: _) W := h4.tail
 have h7 : laidMet Tryz.prog (("strings.asciiSpace", Rows.laid_strings_asciiSpace) :: _) W := h5.tail.tail
 rw[powL] at h2;rw[spaceL] at h7;have k1:=Lib.tabIs_of_head gl1 (by kernel_rfl) Tryz.underlying209 Tryz.underlying180 (by kernel_rfl) (by kernel_rfl) h2;have k0:=Lib.tabIs_of_head gl0 (by kernel_rfl) Tryz.underlying160 Tryz.underlying5 (by kernel_rfl) (by kernel_rfl) h7;obtain⟨a,b,k3⟩:=zgF h4 gl3 (by kernel_rfl) Tryz.underlying103;obtain⟨c,d,k2⟩:=zgF h5 gl2 (by kernel_rfl) Tryz.underlying103;have b0:=zc8 (v:=.int .u8 0) (vs:=(spaceTab.map fun z=>Value.int .u8 z).tail) gl0 k0;have b1:=zc8 (v:=.int .u64 1) (vs:=(Lib.pow10Tab.map fun z=>Value.int .u64 z).tail) gl1 k1;have b2:=zc8 (vs:=[]) gl2 k2;have b3:=zc8 (vs:=[]) gl3 k3;exact⟨Nat.succ_le_of_lt (by omega),k0,k1,⟨c,d,k2⟩,⟨a,b,k3⟩⟩
theorem zsD(os:Os)(args:Array Value):laidMetH Tryz.prog zkV ((World.laidAll Tryz.prog os zkV).forCall (fun _ _=>0) ⟨#[],args,[]⟩).memory:=by
 rw[MakeChecks.laidMetH_plain _ _ _ (by kernel_rfl)];exact laidMet_laidAll _ (by kernel_rfl) (by kernel_rfl)
theorem each{α β:Type} [Inhabited α](m:Nat)(R:Nat->List β->Prop)(f:α->List β)(j:∀i,i<m->∃s,R i (f s)) :
  ∃l:List α,l.length=m/\∀i (h:i<l.length),R i (f l[i]):=by
 let g:Nat->α:=fun i=>if h:i<m then(j i h).choose else default
 have q:∀i,i<m->R i (f (g i)):=fun i h=>by
  simp only[g,dif_pos h];exact(j i h).choose_spec
 refine⟨(List.range m).map g,by simp,?_⟩;intro i hi;have d:i<m:=by simpa using hi
 simpa using q i d
instance : Inhabited Tok := ⟨⟨0, [], 0, 0, 0⟩⟩

theorem StsC.split{w:World}{P:Nat->Prop}{xs:List St}{cs:List Value}(h:StsC w P xs cs):∀k,StsC w P (xs.take k) (cs.take (k*6))/\StsC w P (xs.drop k) (cs.drop (k*6)):=by
 induction h with
 | nil=>intro k;simp only[List.take_nil,List.drop_nil];exact⟨.nil,.nil⟩
 | cons h1 h2 h3 b1 b2 b3 l1 l2 l3 h4 _ _ ih =>
  intro k
  cases k with
  | zero=>exact⟨.nil,.cons h1 h2 h3 b1 b2 b3 l1 l2 l3 h4⟩
  | succ k =>
   have e:(k+1)*6=k*6+6:=by omega
   rw[e];exact⟨.cons h1 h2 h3 b1 b2 b3 l1 l2 l3 (ih k).1,(ih k).2⟩
theorem Sl.take{w:World}{sz n:Nat}{cs:List Value}{a:Option Addr}{m cap:Nat}(h:Sl w sz n cs (.slice a m cap)){k:Nat}(u:k<=n):Sl w sz k (cs.take (k*sz)) (.slice a k cap):=by
 obtain⟨z,f,i,y,g,q,v⟩:=h;cases i;have A:k*sz<=n*sz:=Nat.mul_le_mul_right _ u;refine⟨a,cap,rfl,by omega,g,by rw[List.length_take,q];omega,fun h0=>?_⟩;obtain⟨b,d,rfl,l⟩:=v (by omega);refine⟨b,d,rfl,fun j hj=>?_⟩;rw[l j (by omega),List.getElem?_take_of_lt hj]
theorem Sl.drop{w:World}{sz n:Nat}{cs:List Value}{b d:Nat}{m cap:Nat}(h:Sl w sz n cs (.slice (some ⟨b,d,none⟩) m cap)){k:Nat}(v:k<=n)(l:0<n):Sl w sz (n-k) (cs.drop (k*sz)) (.slice (some ⟨b,d+k*sz,none⟩) (n-k) (cap-k)):=by
 obtain⟨C,f,i,z,B,u,y⟩:=h;cases i;have D:k*sz<=n*sz:=Nat.mul_le_mul_right _ v;obtain⟨A,g,e,q⟩:=y l;cases e;refine⟨some ⟨b,d+k*sz,none⟩,cap-k,rfl,by omega,by omega,by rw[List.length_drop,u,Nat.sub_mul],fun _=>?_⟩;refine⟨b,d+k*sz,rfl,fun j hj=>?_⟩;rw[List.getElem?_drop,Nat.add_assoc];exact q (k*sz+j) (by rw[Nat.sub_mul] at hj;omega)
end Go.Proofs.YtoaojdobjinhfaaGreatDoor
