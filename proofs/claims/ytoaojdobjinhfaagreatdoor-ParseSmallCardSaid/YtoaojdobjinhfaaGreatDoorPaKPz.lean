/- The program's parser: what within hands to opened, walked. -/
import Derived.Test.YtoaojdobjinhfaaGreatDoorPaHPz
set_option linter.unusedSimpArgs false
set_option linter.unusedVariables false
set_option maxRecDepth 100000
set_option maxHeartbeats 4000000
namespace Go.Proofs.YtoaojdobjinhfaaGreatDoor
open Go.RowKit

def zbs (p : Nat) : Value := .func (.func 65) #[.pointer (some ⟨p, 0, none⟩)] #[]
theorem zlv(l:List Tok)(E:Nat->Nat->Nat->PR Ex)(o:Nat)(stop:List UInt8)(xs:List Ex)(i:Nat):za0 l i stop=(zav l E o stop 0 xs i).map (fun _=>())/\∀y j,zav l E o stop 0 xs i=.ok y j->y=xs:=by
 rw[zav];unfold za0;by_cases d:isS l i stop=true
 ·rw[yN (by rw[d];decide),yP d];exact⟨rfl,fun y j e=>by cases e;rfl⟩
 ·rw[yP (by simpa using d),yN d];exact⟨rfl,fun y j e=>by cases e⟩
theorem ziZ {w:World} {p gp bq bp gl bs many:Nat} {v:Value} {l:List Tok} {i o:Nat} {stop:List UInt8} (h:PSt w p v l i (o+1)) (J:PEnv l) (ho:o < 200) (E:Nat->Nat->Nat->PR Ex)
  (hq:OwnV w bq 171 [.slice (some ⟨gp,0,none⟩) many many]) (hp:OwnV w bp 72 [.pointer (some ⟨p,0,none⟩)]) (hl:OwnV w gl 27 [.slice none 0 0]) (hs:OwnV w bs 9 [.string (bstr stop)]) (hg:OwnV w gp 54 (List.replicate many (zbs p)))
  (n1:bq≠p) (n2:bp≠p) (n3:gl≠p) (n4:bs≠p) (n5:gp≠p) (n6:bq≠gl) (n7:bp≠gl) (n8:bs≠gl) (n9:gp≠gl) (aK:∀b,v.ownBlock=some b->b≠gl) (bh:many<=2) (be:0<many)
  (hX:∀I W,i<=I->PSt W p v l I (o+1)->Calls Tryz.prog 65 #[.pointer (some ⟨p,0,none⟩)] W (RdE l p v (o+1) W (ExN W.heap.size) (E I (o+1) 1)))
  (aP:∀I x m,E I (o+1) 1=.ok x m->I<m) :
  Calls Tryz.prog 152 #[.pointer (some ⟨bq,0,none⟩),.pointer (some ⟨bp,0,none⟩),.pointer (some ⟨gl,0,none⟩),.pointer (some ⟨bs,0,none⟩)] w (OpE l p v (o+1) (fun b=>b=p∨b=gl) w (XsBox w.heap.size gl) (zav l E o stop many [] i)):=by
 have aF:=h.lt;have ap:=hl.lt;have hv:=zao h;have Hq:=zh hq;have Hp:=zh hp;have Hl:=zh hl;have Hs:=zh hs;have Hg:=zh hg;have H:=zh h;have HX:=zh hX;have aO:=zh aP;obtain⟨f,aH⟩:∃r,zav l E o stop many [] i=r:=⟨_,rfl⟩;have Hf:=zh aH;rw[aH];have q0:=hq.cell (i:=0) rfl;clear h hq hp hl hs hg hX aH aP;go_enter Tryz.func152,Tryz.ntmps152
 go_wp2_with fail
 go_loopg [4,5,8,9,10,11,12,13,14,15,16,17,18,19,20,21,22,23,24] (many) (fun g _ _ t8 _ _ _ _ _ _ _ _ _ _ _ _ _ _ _ _ wr=>∃(k I:Nat) (u:Value) (xs:List Ex) (cs:List Value),g=many-k/\k<=many/\i<=I/\xs.length=k/\t8=.int .i64 k/\Hid (PSt wr p v l I (o+1))/\Hid (OwnV wr gl 27 [u])/\Hid (wr.ownsRow w.heap.size 29 4 u k cs)/\Hid (ExsC wr (fun b=>w.heap.size<=b/\u.ownBlock≠some b) xs cs)/\Hid (zav l E o stop (many-k) xs I=f)/\Hid (Only (fun b=>b=p∨b=gl) w wr))
 case atStart=>exact⟨0,i,.slice none 0 0,[],[],rfl,by omega,zr _,rfl,rfl,H,Hl,zh (World.ownsRow_nil _ _ _ _),zh .nil,Hf,zh (Only.refl _ _)⟩
 case round =>
  clear H Hl Hf q0;obtain⟨k,I,u,xs,cs,rfl,aI,bf,Z,rfl,HP,HL,HR,ay,Hf,HT⟩:=hrel;have a5:=HT.out.size;have aq:(k:Int)<=2:=by omega
  by_cases hk:k=many
  · -- znZ the loop: need(end)
   subst hk;have hc:¬((k:Int)<(k:Int)):=by omega
   have p0:=(HT.out.own Hp.out (by simp[n2,n7])).cell (i:=0) rfl;have s0:=(HT.out.own Hs.out (by simp[n4,n8])).cell (i:=0) rfl;have HN:=zh (zcv HP.out J stop);have aN:=zlv l E o stop xs I;rw[show zav l E o stop 0 xs I=f from by rw[<-Hf.out,Nat.sub_self]] at aN;rw[aN.1] at HN;have ag:=zh aN.2;clear aN Hf;go_wp2_with fail
   go_at_call 131;refine HN.out.mono ?_;intro e4 w4 Q;clear HN
   cases f with
   | err a c =>
    obtain⟨Q,F⟩:=Q;unfold Bad at Q;subst Q;have ao:=zh F;clear F;go_wp2_with fail
    exact⟨rfl,rfl,HT.out.trans (ao.out.mono fun _ _ e=>.inl e)⟩
   | ok y j =>
    obtain⟨u4,rfl,rfl,ax,F⟩:=Q;obtain rfl:=ag.out y j rfl;have bc:=zh ax;have ao:=zh F;clear ax F;go_wp2_with fail
    refine yE (results_none rfl _ _ _) rfl ⟨rfl,⟨u,ao.out.own HL.out n3,?_⟩,bc.out,HT.out.trans (ao.out.mono fun _ _ e=>.inl e)⟩;exact XsV.only (W:=wr) ⟨cs,by rw[Z];exact HR.out,ay.out⟩ ao.out (fun b e=>by cases e;exact aF)
  ·have hc:(k:Int) < (many:Int):=by omega
   have a7:(0:Int)<=(k:Int):=by omega
   have aM:¬(k:Int)<0:=by omega
   have aW:wr.cell? ⟨gp,k,none⟩=some (zbs p):=(HT.out.own Hg.out (by simp[n5,n9])).cell (i:=k) (by rw[List.getElem?_replicate,yP (by omega)]);have p0:=(HT.out.own Hp.out (by simp[n2,n7])).cell (i:=0) rfl;have bd:=(HT.out.own Hg.out (by simp[n5,n9])).lt

   obtain⟨mm,am⟩:∃mm,many-k=mm+1:=⟨many-k-1,by omega⟩
   have ag:Hid ((xs=[]->(E I (o+1) 1).andThen (fun x j=>zav l E o stop mm [x] j)=f)/\(xs≠[]->isS l I [44]=false->f=.err I 120)/\(xs≠[]->isS l I [44]=true->(E (I+1) (o+1) 1).andThen (fun x j=>zav l E o stop mm (xs++[x]) j)=f)):=zh (by
    rw[<-Hf.out,am,zav]
    refine⟨fun e=>by rw[yP e],fun e h2=>by rw[yN e,yP h2],fun e h2=>by rw[yN e,yN (by rw[h2];decide)]⟩)
   clear Hf;obtain aJ|aJ:k=0∨0<k:=by omega
   ·have az:¬(0:Int)<(k:Int):=by omega
    have P:Hid ((E I (o+1) 1).andThen (fun x j=>zav l E o stop mm (xs++[x]) j)=f):=zh (by
     have a2:xs=[]:=List.eq_nil_of_length_eq_zero (by omega);rw[<-ag.out.1 a2,a2]
     rfl)
    clear ag;have a6:wr.cell? ⟨gp,0,none⟩=some (zbs p):=by rw[<-aW,aJ]
    go_upto_region 5 with(fail)
    have aS:=HP;have ad:=HL;have L:=HR;have aw:=ay;have ae:=HT;clear HP HL HR ay HT aW a6 p0 aJ;have HC:Hid (∀W,Below wr.heap.size wr W->Calls Tryz.prog 65 #[.pointer (some ⟨p,0,none⟩)] W (RdE l p v (o+1) W (ExN W.heap.size) (E I (o+1) 1))):=zh (fun W hb=>HX.out I W (by omega) (aS.out.below hb));have ab:=aO.out I;generalize E I (o+1) 1=R at HC P ab;have l0:=ad.out.cell (i:=0) rfl;obtain⟨ua,cap,rfl,-,-⟩:=Sl.form (Sl.of_own L.out);unfold zbs
    cases R with
    | err a c =>
     have ac:Hid (.err a c=f):=P;clear ab aq hk hc a7 aM aI am Z az;refine zdi [0,0,5,0,3,2,2,2,2] (fun b w'=>Below wr.heap.size wr w'/\(b=false->w'=wr.drew)) (by kernel_rfl) (by kernel_rfl) ⟨(yR _ _).drew,fun _=>rfl⟩ ?_;try simp only[Act.put,zs1,zs3,zs2]
     apply stepsDie2.val
     ·rintro b w' J;have HE:=zh J;have bb:=Below.keep J.1 l0;clear J;try simp only[Act.put,zs1,zs3,zs2]
      go_wp2;exact⟨rfl,HE.out⟩
     try simp only[Act.put,zs1,zs3,zs2]
     apply stepsDie2.val
     ·rintro b w' J;have HE:=zh J;clear J;try simp only[Act.put,zs1,zs3,zs2]
      go_wp2;exact⟨rfl,HE.out⟩
     try simp only[Act.put,zs1,zs3,zs2]
     apply stepsDie2.dies
     ·rintro b w' J;have HE:=zh J;clear J;try simp only[Act.put,zs1,zs3,zs2]
      go_wp2_with fail
      go_at_call 65;refine(HC.out _ HE.out.1).mono ?_;rintro e5 T⟨aG,A⟩;unfold Bad at aG;subst aG;exact fun aa haa=>⟨haa,by rw[<-ac.out];exact⟨rfl,ae.out.trans ((Only.of_below HE.out.1).trans (A.mono fun _ _ e=>.inl e))⟩⟩
     try simp only[Act.put,zs1,zs3,zs2]
     apply stepsDie2.val
     ·rintro b w' J;have HE:=zh J;clear J;try simp only[Act.put,zs1,zs3,zs2]
      go_wp2;exact⟨rfl,HE.out⟩
     try simp only[Act.put,zs1,zs3,zs2]
     apply stepsDie2.mem
     ·rintro w'⟨-,aQ⟩;obtain rfl:=aQ rfl;try simp only[Act.put,zs1,zs3,zs2]
      go_wp2;have ar:Below wr.heap.size wr (wr.alloc (.cells #[.int .u8 0,.int .i64 0,.string { data:=#[] },.slice none 0 0] 29)).drew:=((yR _ _).alloc (zr _) _).drew;first|exact⟨rfl,ar⟩|exact⟨rfl,ar,fun h=>by cases h⟩
     apply stepsDie2.skip;apply stepsDie2.skip;apply stepsDie2.skip;apply stepsDie2.skip
     exact stepsDie2.done
    | ok x j2 =>
     have a4:=ab x j2 rfl;obtain⟨N,M,z,q⟩:=x;have ac:Hid (zav l E o stop mm (xs++[.mk N M z q]) j2=f):=P;clear ab P;have a3:gl<wr.heap.size:=ad.out.lt;have aU:(k:Int)<(k:Int)+1:=by omega
     have aX:=zh Z;have Hk:=zh (show many-k=mm+1/\k<many from⟨am,by omega⟩);clear aq hk hc aM aI am Z az;go_region_law (first|(refine zaR rfl (.tmp 17) (.tmp 21) 27 rfl av zbx Tryz.underlying27 rfl (by decide) (by simp[Act.eval,Act.put]) aE (by simp[Act.eval,Act.put]) zd1 (by have:=Hk.out.2;unfold maxLen;omega) (by have:=Hk.out.2;omega) (by first|exact Y|(simp;omega)) ?_;intro v6 w6 d K aD G;have B:=G;obtain⟨g6,V,rfl,au⟩:=zcd d;have O:OwnV w6 gl 27 [.slice ua k cap]:=OwnV.grown (by first|exact C|exact C.alloc _) K (fun e=>by have:=(S.lt gl e.symm).1;omega);have l6:=O.cell (i:=0) rfl;have aA:=O.free;have f0:=d.frozenAt (k*4);have f1:=d.frozenAt (k*4+1);have f2:=d.frozenAt (k*4+2);have f3:=d.frozenAt (k*4+3);obtain⟨c0,c1,c2,c3⟩:=zez d;have aC:¬g6=gl:=(by omega);have ak:¬gl=g6:=(by omega))|(refine zaR rfl (.tmp 17) (.tmp 21) 27 rfl S zbx Tryz.underlying27 rfl (by decide) (by simp[Act.eval,Act.put]) aZ (by simp[Act.eval,Act.put]) zd1 (by have:=Hk.out.2;unfold maxLen;omega) (by have:=Hk.out.2;omega) (by first|exact Y|(simp;omega)) ?_;intro v6 w6 d K aD G;have B:=G;obtain⟨g6,V,rfl,au⟩:=zcd d;have O:OwnV w6 gl 27 [.slice ua k cap]:=OwnV.grown (by first|exact C|exact C.alloc _) K (fun e=>by have:=(S.lt gl e.symm).1;omega);have l6:=O.cell (i:=0) rfl;have aA:=O.free;have f0:=d.frozenAt (k*4);have f1:=d.frozenAt (k*4+1);have f2:=d.frozenAt (k*4+2);have f3:=d.frozenAt (k*4+3);obtain⟨c0,c1,c2,c3⟩:=zez d;have aC:¬g6=gl:=(by omega);have ak:¬gl=g6:=(by omega))|(go_simp;refine(HC.out _ (by first|exact(yR _ _).drew|exact(yR _ _).drew.alloc (zr _) _|exact((yR _ _).alloc (zr _) _).drew)).mono ?_;rintro e5 T⟨u5,rfl,⟨a9,rfl,ah⟩,an,A⟩;obtain⟨af,aj,rfl⟩:=ah.form1;have S:T.ownsRow w.heap.size 29 4 (.slice ua k cap) k cs:=Only.row A (by first|exact L.out|exact L.out.alloc _) (fun g hg e=>by have:=(L.out.lt g hg).1;omega);have C:OwnV T gl 27 [.slice ua k cap]:=Only.own A (by first|exact ad.out|exact ad.out.alloc _) n3;have l5:=C.cell (i:=0) rfl;have aY:=(C.alloc (.cells #[.int .u8 0,.int .i64 0,.string { data:=#[] },.slice none 0 0] 29)).cell (i:=0) rfl;have av:(T.alloc (.cells #[.int .u8 0,.int .i64 0,.string { data:=#[] },.slice none 0 0] 29)).ownsRow w.heap.size 29 4 (.slice ua k cap) k cs:=S.alloc _;have aE:Sl (T.alloc (.cells #[.int .u8 0,.int .i64 0,.string { data:=#[] },.slice none 0 0] 29)) 4 1 zeroE (.slice (some ⟨T.heap.size,0,none⟩) 1 1):=zcw (OwnV.new T 29 zeroE) rfl (zr _) (by decide);have Y:w.heap.size<=T.heap.size:=(yT a5 (by first|exact A.size|(have:=A.size;simp at this;omega)));(first|have aZ:Sl T 4 1 zeroE (.slice (some ⟨wr.heap.size,0,none⟩) 1 1):=zcw (g:=wr.heap.size) (e:=29) (Only.own A (OwnV.new wr.drew 29 zeroE) (by omega)) rfl (zr _) (by decide)|skip)))
     all_goals
      have U:Turns p wr T:=by first|exact(Turns.below (yR _ _).drew).trans A|exact(Turns.below ((yR _ _).drew.alloc (zr _) _)).trans A|exact(Turns.below ((yR _ _).alloc (zr _) _).drew).trans A
      have X:ExsC T (fun b=>wr.heap.size<=b) [.mk N M z q] [.int .u8 N,.int .i64 M,.string (bstr z),.slice af q.length aj]:=ah.weak fun b _ h=>(by first|exact h|exact(show wr.heap.size<=b from yT (by simp) h))
      first|(obtain⟨W7,D⟩:∃W7,W7=(((((w6.setCell ⟨g6,k*4,none⟩ (.int .u8 N)).setCell ⟨g6,k*4+1,none⟩ (.int .i64 M)).setCell ⟨g6,k*4+2,none⟩ (.string (bstr z))).setCell ⟨g6,k*4+3,none⟩ (.slice af q.length aj)).setCell ⟨gl,0,none⟩ (.slice (some ⟨g6,0,none⟩) (k+1) V)):=⟨_,rfl⟩;rw[<-D];have ai:=zdj (W7:=W7) ae.out aF ap n3 hv aK L.out aw.out U an X C (by first|exact yR _ _|exact(yR _ _).alloc (zr _) _) K B d (.inl D);clear D)|(obtain⟨W7,D⟩:∃W7,W7=(((((w6.setCell ⟨gl,0,none⟩ (.slice (some ⟨g6,0,none⟩) (k+1) V)).setCell ⟨g6,k*4,none⟩ (.int .u8 N)).setCell ⟨g6,k*4+1,none⟩ (.int .i64 M)).setCell ⟨g6,k*4+2,none⟩ (.string (bstr z))).setCell ⟨g6,k*4+3,none⟩ (.slice af q.length aj)):=⟨_,rfl⟩;rw[<-D];have ai:=zdj (W7:=W7) ae.out aF ap n3 hv aK L.out aw.out U an X C (by first|exact yR _ _|exact(yR _ _).alloc (zr _) _) K B d (.inr D);clear D)
      have aT:=zh ai;have aR:i<=j2:=by omega
      have a8:=zh aU;clear ai U ah X an A C S av aE O G B K aD l5 aY l6 aA f0 f1 f2 f3 c0 c1 c2 c3 d Y;have aV:IntKind.i64.wrap ((k:Int)+1)=((k+1:Nat):Int):=by have:=Hk.out.2;rw[IntWalk.i64_in _ (by omega)];rfl
      go_wp2_with fail
      go_roundg (many-(k+1))
      case measure=>have:=Hk.out;omega
      case rel =>
       obtain⟨r1,r2,r3,r4,r5⟩:=aT.out;exact⟨k+1,j2,_,xs++[.mk N M z q],_,rfl,by have:=Hk.out;omega,aR,by have:=aX.out;rw[yA,this];rfl,by first|rfl|(rw[<-aV];rfl),zh r1,zh r2,zh r3,zh r4,zh (by have e:many-(k+1)=mm:=(by have:=Hk.out;omega);rw[e];exact ac.out),zh r5⟩
   ·have az:(0:Int)<(k:Int):=by omega
    have a0:xs≠[]:=fun e=>by rw[e] at Z;simp at Z;omega
    have P:Hid ((za0 l I [44]).andThen (fun _ j1=>(E j1 (o+1) 1).andThen (fun x j=>zav l E o stop mm (xs++[x]) j))=f):=zh (by
     unfold za0;by_cases aL:isS l I [44]=true
     ·rw[yN (by rw[aL];decide)];exact ag.out.2.2 a0 aL
     ·rw[yP (by simpa using aL)];exact(ag.out.2.1 a0 (by simpa using aL)).symm)
    have HN:=zh (zcv HP.out J [44])
    have ba:∀y j,za0 l I [44]=.ok y j->I<=j:=by
     unfold za0;intro y j e;split at e
     ·cases e
     ·cases e;omega
    generalize za0 l I [44]=R0 at *
    clear ag;go_wp2_with fail
    go_at_call 131;refine HN.out.mono ?_;intro e4 w4 Q;clear HN
    cases R0 with
    | err a c =>
     obtain⟨Q,F⟩:=Q;unfold Bad at Q;subst Q;have ao:=zh F;clear F;have ac:Hid (.err a c=f):=P;go_wp2_with fail
     refine⟨rfl,?_⟩;rw[<-ac.out]
     exact⟨rfl,HT.out.trans (ao.out.mono fun _ _ e=>.inl e)⟩
    | ok y j =>
     obtain⟨u4,rfl,rfl,ax,F⟩:=Q;have bg:=ba y j rfl;replace P:Hid ((E j (o+1) 1).andThen (fun x j=>zav l E o stop mm (xs++[x]) j)=f):=P;go_upto_region 5 with(fail)
     have aS:=zh ax;have ad:=zh (F.own HL.out n3);have L:=zh (F.row HR.out (fun g hg e=>by have:=(HR.out.lt g hg).1;omega));have aw:=zh (ay.out.grown (Turns.grown (p:=p) F) (fun b e h=>by cases e;omega));have ae:=zh (HT.out.trans (F.mono (fun _ _ e=>.inl e)):Only (fun b=>b=p∨b=gl) w w4);have a1:w.heap.size<=w4.heap.size:=ae.out.size;clear HP HL HR ay HT F ax aW p0 aJ a0;have HC:Hid (∀W,Below w4.heap.size w4 W->Calls Tryz.prog 65 #[.pointer (some ⟨p,0,none⟩)] W (RdE l p v (o+1) W (ExN W.heap.size) (E j (o+1) 1))):=zh (fun W hb=>HX.out j W (by omega) (aS.out.below hb));have ab:=aO.out j;generalize E j (o+1) 1=R at HC P ab;have l0:=ad.out.cell (i:=0) rfl;obtain⟨ua,cap,rfl,-,-⟩:=Sl.form (Sl.of_own L.out);unfold zbs
     cases R with
     | err a c =>
      have ac:Hid (.err a c=f):=P;clear ab aq hk hc a7 aM aI am Z az;refine zdi [0,0,5,0,3,2,2,2,2] (fun b w'=>Below w4.heap.size w4 w'/\(b=false->w'=w4.drew)) (by kernel_rfl) (by kernel_rfl) ⟨(yR _ _).drew,fun _=>rfl⟩ ?_;try simp only[Act.put,zs1,zs3,zs2]
      apply stepsDie2.val
      ·rintro b w' J;have HE:=zh J;have bb:=Below.keep J.1 l0;clear J;try simp only[Act.put,zs1,zs3,zs2]
       go_wp2;exact⟨rfl,HE.out⟩
      try simp only[Act.put,zs1,zs3,zs2]
      apply stepsDie2.val
      ·rintro b w' J;have HE:=zh J;clear J;try simp only[Act.put,zs1,zs3,zs2]
       go_wp2;exact⟨rfl,HE.out⟩
      try simp only[Act.put,zs1,zs3,zs2]
      apply stepsDie2.dies
      ·rintro b w' J;have HE:=zh J;clear J;try simp only[Act.put,zs1,zs3,zs2]
       go_wp2_with fail
       go_at_call 65;refine(HC.out _ HE.out.1).mono ?_;rintro e5 T⟨aG,A⟩;unfold Bad at aG;subst aG;exact fun aa haa=>⟨haa,by rw[<-ac.out];exact⟨rfl,ae.out.trans ((Only.of_below HE.out.1).trans (A.mono fun _ _ e=>.inl e))⟩⟩
      try simp only[Act.put,zs1,zs3,zs2]
      apply stepsDie2.val
      ·rintro b w' J;have HE:=zh J;clear J;try simp only[Act.put,zs1,zs3,zs2]
       go_wp2;exact⟨rfl,HE.out⟩
      try simp only[Act.put,zs1,zs3,zs2]
      apply stepsDie2.mem
      ·rintro w'⟨-,aQ⟩;obtain rfl:=aQ rfl;try simp only[Act.put,zs1,zs3,zs2]
       go_wp2;have ar:Below w4.heap.size w4 (w4.alloc (.cells #[.int .u8 0,.int .i64 0,.string { data:=#[] },.slice none 0 0] 29)).drew:=((yR _ _).alloc (zr _) _).drew;first|exact⟨rfl,ar⟩|exact⟨rfl,ar,fun h=>by cases h⟩
      apply stepsDie2.skip;apply stepsDie2.skip;apply stepsDie2.skip;apply stepsDie2.skip
      exact stepsDie2.done
     | ok x j2 =>
      have a4:=ab x j2 rfl;obtain⟨N,M,z,q⟩:=x;have ac:Hid (zav l E o stop mm (xs++[.mk N M z q]) j2=f):=P;clear ab P;have a3:gl<w4.heap.size:=ad.out.lt;have aU:(k:Int)<(k:Int)+1:=by omega
      have aX:=zh Z;have Hk:=zh (show many-k=mm+1/\k<many from⟨am,by omega⟩);clear aq hk hc aM aI am Z az;go_region_law (first|(refine zaR rfl (.tmp 17) (.tmp 21) 27 rfl av zbx Tryz.underlying27 rfl (by decide) (by simp[Act.eval,Act.put]) aE (by simp[Act.eval,Act.put]) zd1 (by have:=Hk.out.2;unfold maxLen;omega) (by have:=Hk.out.2;omega) (by first|exact Y|(simp;omega)) ?_;intro v6 w6 d K aD G;have B:=G;obtain⟨g6,V,rfl,au⟩:=zcd d;have O:OwnV w6 gl 27 [.slice ua k cap]:=OwnV.grown (by first|exact C|exact C.alloc _) K (fun e=>by have:=(S.lt gl e.symm).1;omega);have l6:=O.cell (i:=0) rfl;have aA:=O.free;have f0:=d.frozenAt (k*4);have f1:=d.frozenAt (k*4+1);have f2:=d.frozenAt (k*4+2);have f3:=d.frozenAt (k*4+3);obtain⟨c0,c1,c2,c3⟩:=zez d;have aC:¬g6=gl:=(by omega);have ak:¬gl=g6:=(by omega))|(refine zaR rfl (.tmp 17) (.tmp 21) 27 rfl S zbx Tryz.underlying27 rfl (by decide) (by simp[Act.eval,Act.put]) aZ (by simp[Act.eval,Act.put]) zd1 (by have:=Hk.out.2;unfold maxLen;omega) (by have:=Hk.out.2;omega) (by first|exact Y|(simp;omega)) ?_;intro v6 w6 d K aD G;have B:=G;obtain⟨g6,V,rfl,au⟩:=zcd d;have O:OwnV w6 gl 27 [.slice ua k cap]:=OwnV.grown (by first|exact C|exact C.alloc _) K (fun e=>by have:=(S.lt gl e.symm).1;omega);have l6:=O.cell (i:=0) rfl;have aA:=O.free;have f0:=d.frozenAt (k*4);have f1:=d.frozenAt (k*4+1);have f2:=d.frozenAt (k*4+2);have f3:=d.frozenAt (k*4+3);obtain⟨c0,c1,c2,c3⟩:=zez d;have aC:¬g6=gl:=(by omega);have ak:¬gl=g6:=(by omega))|(go_simp;refine(HC.out _ (by first|exact(yR _ _).drew|exact(yR _ _).drew.alloc (zr _) _|exact((yR _ _).alloc (zr _) _).drew)).mono ?_;rintro e5 T⟨u5,rfl,⟨a9,rfl,ah⟩,an,A⟩;obtain⟨af,aj,rfl⟩:=ah.form1;have S:T.ownsRow w.heap.size 29 4 (.slice ua k cap) k cs:=Only.row A (by first|exact L.out|exact L.out.alloc _) (fun g hg e=>by have:=(L.out.lt g hg).1;omega);have C:OwnV T gl 27 [.slice ua k cap]:=Only.own A (by first|exact ad.out|exact ad.out.alloc _) n3;have l5:=C.cell (i:=0) rfl;have aY:=(C.alloc (.cells #[.int .u8 0,.int .i64 0,.string { data:=#[] },.slice none 0 0] 29)).cell (i:=0) rfl;have av:(T.alloc (.cells #[.int .u8 0,.int .i64 0,.string { data:=#[] },.slice none 0 0] 29)).ownsRow w.heap.size 29 4 (.slice ua k cap) k cs:=S.alloc _;have aE:Sl (T.alloc (.cells #[.int .u8 0,.int .i64 0,.string { data:=#[] },.slice none 0 0] 29)) 4 1 zeroE (.slice (some ⟨T.heap.size,0,none⟩) 1 1):=zcw (OwnV.new T 29 zeroE) rfl (zr _) (by decide);have Y:w.heap.size<=T.heap.size:=(yT a1 (by first|exact A.size|(have:=A.size;simp at this;omega)));(first|have aZ:Sl T 4 1 zeroE (.slice (some ⟨w4.heap.size,0,none⟩) 1 1):=zcw (g:=w4.heap.size) (e:=29) (Only.own A (OwnV.new w4.drew 29 zeroE) (by omega)) rfl (zr _) (by decide)|skip)))
      all_goals
       have U:Turns p w4 T:=by first|exact(Turns.below (yR _ _).drew).trans A|exact(Turns.below ((yR _ _).drew.alloc (zr _) _)).trans A|exact(Turns.below ((yR _ _).alloc (zr _) _).drew).trans A
       have X:ExsC T (fun b=>w4.heap.size<=b) [.mk N M z q] [.int .u8 N,.int .i64 M,.string (bstr z),.slice af q.length aj]:=ah.weak fun b _ h=>(by first|exact h|exact(show w4.heap.size<=b from yT (by simp) h))
       first|(obtain⟨W7,D⟩:∃W7,W7=(((((w6.setCell ⟨g6,k*4,none⟩ (.int .u8 N)).setCell ⟨g6,k*4+1,none⟩ (.int .i64 M)).setCell ⟨g6,k*4+2,none⟩ (.string (bstr z))).setCell ⟨g6,k*4+3,none⟩ (.slice af q.length aj)).setCell ⟨gl,0,none⟩ (.slice (some ⟨g6,0,none⟩) (k+1) V)):=⟨_,rfl⟩;rw[<-D];have ai:=zdj (W7:=W7) ae.out aF ap n3 hv aK L.out aw.out U an X C (by first|exact yR _ _|exact(yR _ _).alloc (zr _) _) K B d (.inl D);clear D)|(obtain⟨W7,D⟩:∃W7,W7=(((((w6.setCell ⟨gl,0,none⟩ (.slice (some ⟨g6,0,none⟩) (k+1) V)).setCell ⟨g6,k*4,none⟩ (.int .u8 N)).setCell ⟨g6,k*4+1,none⟩ (.int .i64 M)).setCell ⟨g6,k*4+2,none⟩ (.string (bstr z))).setCell ⟨g6,k*4+3,none⟩ (.slice af q.length aj)):=⟨_,rfl⟩;rw[<-D];have ai:=zdj (W7:=W7) ae.out aF ap n3 hv aK L.out aw.out U an X C (by first|exact yR _ _|exact(yR _ _).alloc (zr _) _) K B d (.inr D);clear D)
       have aT:=zh ai;have aR:i<=j2:=by omega
       have a8:=zh aU;clear ai U ah X an A C S av aE O G B K aD l5 aY l6 aA f0 f1 f2 f3 c0 c1 c2 c3 d Y;have aV:IntKind.i64.wrap ((k:Int)+1)=((k+1:Nat):Int):=by have:=Hk.out.2;rw[IntWalk.i64_in _ (by omega)];rfl
       go_wp2_with fail
       go_roundg (many-(k+1))
       case measure=>have:=Hk.out;omega
       case rel =>
        obtain⟨r1,r2,r3,r4,r5⟩:=aT.out;exact⟨k+1,j2,_,xs++[.mk N M z q],_,rfl,by have:=Hk.out;omega,aR,by have:=aX.out;rw[yA,this];rfl,by first|rfl|(rw[<-aV];rfl),zh r1,zh r2,zh r3,zh r4,zh (by have e:many-(k+1)=mm:=(by have:=Hk.out;omega);rw[e];exact ac.out),zh r5⟩
theorem zgL(d:Array Value)(W:World):(callFunc 152 d).run Tryz.prog W=.ok (.enter 152 d) W:=(enters_of (P:=Tryz.prog) Tryz.func152 (by kernel_rfl) rfl) d W
theorem zce{w:World}{p G many:Nat}{v:Value}{l:List Tok}{i o:Nat}{start stop:List UInt8}(h:PSt w p v l i o)(hE:PEnv l)(ho:o<=300)(E:Nat->Nat->Nat->PR Ex)
  (P:OwnV w G 54 (List.replicate many (zbs p))) (n5:G≠p) (V:many<=2) (T:0<many)
  (Y:∀i' W,i<i'->o<200->PSt W p v l i' (o+1)->Calls Tryz.prog 65 #[.pointer (some ⟨p,0,none⟩)] W (RdE l p v (o+1) W (ExN W.heap.size) (E i' (o+1) 1)))
  (z:∀i' x m,E i' (o+1) 1=.ok x m->i'<m) :
  Calls Tryz.prog 126 #[.pointer (some ⟨p,0,none⟩),.string (bstr start),.string (bstr stop),.slice (some ⟨G,0,none⟩) many many] w (RdE l p v o w (XsV w.heap.size) (zad l E i o start stop many)):=by
 have ab:=h.lt;have aa:=P.lt;have hv:=zao h;have ac:=zmf Tryz.prog
 obtain⟨g,J,y,A,K,D,H,L⟩:∃g,g=(((w.alloc (.cells #[.pointer (some ⟨p,0,none⟩)] 72)).alloc (.cells #[.string (bstr stop)] 9)).alloc (.cells #[.slice (some ⟨G,0,none⟩) many many] 171)).alloc (.cells #[.slice none 0 0] 27)/\Below w.heap.size w g/\OwnV g w.heap.size 72 [.pointer (some ⟨p,0,none⟩)]/\OwnV g (w.heap.size+1) 9 [.string (bstr stop)]/\OwnV g (w.heap.size+1+1) 171 [.slice (some ⟨G,0,none⟩) many many]/\OwnV g (w.heap.size+1+1+1) 27 [.slice none 0 0]/\g.heap.size=w.heap.size+4:=
  ⟨_,rfl,((((yR _ _).alloc (zr _) _).alloc (by simp) _).alloc (by simp;omega) _).alloc (by simp;omega) _,(((OwnV.new _ _ _).alloc _).alloc _).alloc _,((za6 _ _ _ (by simp)).alloc _).alloc _,(za6 _ _ _ (by simp)).alloc _,za6 _ _ _ (by simp),by simp⟩
 have a0:=A.cell (i:=0) rfl;have H1:=h.below y;have C:=P.below y (zr _)
 have Z:=zh (zdz (S:=fun b=>b=p∨b=w.heap.size+1+1+1) H1 hE ho start 152 #[.pointer (some ⟨w.heap.size+1+1,0,none⟩),.pointer (some ⟨w.heap.size,0,none⟩),.pointer (some ⟨w.heap.size+1+1+1,0,none⟩),.pointer (some ⟨w.heap.size+1,0,none⟩)] (.inl rfl) (XsBox g.heap.size (w.heap.size+1+1+1)) (fun W W' x hx ht=>hx.turns ht (by omega) (by omega)) (zav l E o stop many [] (i+1)) (zgL _)
  (fun his ho2 W hT hP=>by
   have N:=hT.size;have:=ziZ hP hE ho2 E (hT.own D (by omega)) (hT.own A (by omega)) (hT.own H (by omega)) (hT.own K (by omega)) (hT.own C (by omega)) (by omega) (by omega) (by omega) (by omega) (by omega) (by omega) (by omega) (by omega) (by omega) (fun b e=>by have:=hv b e;omega) V T (fun i' W' hi' hP'=>Y i' W' (by omega) ho2 hP') z;refine this.mono fun e w' he=>?_
   generalize zav l E o stop many [] (i+1)=R at *
   cases R with
   | err a c=>exact he
   | ok xs j =>
    obtain⟨e1,⟨u,M,q⟩,e3,e4⟩:=he
    exact⟨e1,⟨u,M,q.low N⟩,e3,e4⟩))
 have hR:zad l E i o start stop many=(zay l i start o).andThen (fun _ _=>zav l E o stop many [] (i+1)):=by
  unfold zad zay;split
  ·rfl
  ·split <;> rfl
 rw[hR]
 generalize ((zay l i start o).andThen (fun _ _=>zav l E o stop many [] (i+1)))=R at *
 have U:=zh J;have I:=zh y;have Q:=zh L;clear J y A K D H L H1 C h P Y z hR;go_enter Tryz.func126,Tryz.ntmps126
 go_upto_region 2 with(fail)
 rw[<-U.out];go_wp2_with fail
 go_at_call 151;refine Z.out.mono ?_;intro e4 w4 d;clear Z
 cases R with
 | err a c =>
  obtain⟨d,f⟩:=d;unfold Bad at d;subst d;have B:=zh f;clear f;go_wp2_with fail
  exact⟨rfl,rfl,(Only.of_below (S:=fun b=>b=p) I.out).transNew B.out (fun b e=>by
   rcases e with e|e
   ·exact .inl e
   ·exact .inr (by omega))⟩
 | ok x j =>
  obtain⟨rfl,⟨u,M,q⟩,F,f⟩:=d;have x0:=M.cell (i:=0) rfl;have X:=zh q;have O:=zh F;have B:=zh f;clear q F f M;go_wp2_with fail
  refine yE (v:=u) (by simp[results,Tryz.results126,go_sem]) rfl ⟨_,rfl,X.out.low (by have:=Q.out;omega),O.out,?_⟩
  exact(Only.of_below (S:=fun b=>b=p) I.out).transNew B.out (fun b e=>by
   rcases e with e|e
   ·exact .inl e
   ·exact .inr (by omega))
end Go.Proofs.YtoaojdobjinhfaaGreatDoor
