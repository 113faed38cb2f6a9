/- The reference parser's inside, walked. -/
import Derived.Test.YtoaojdobjinhfaaGreatDoorRParAPz
set_option linter.unusedSimpArgs false
set_option linter.unusedVariables false
set_option maxRecDepth 100000
namespace Go.Proofs.YtoaojdobjinhfaaGreatDoor
open Go.RowKit

theorem zbx:(Tryz.prog.info? 29).map (fun i=>(i.zero,i.size,i.bytes))=some (some (.agg #[.int .u8 0,.int .i64 0,.string ByteArray.empty,.slice none 0 0]),4,56):=by kernel_rfl
theorem zcz(l:List Tok)(E:Nat->Nat->Nat->PR Ex)(v:Value)(i o many:Nat)(s A:List UInt8)(w:World)(hE:ExprC l E i)(hT:Toks w l v)(hG:Good l)(hi:i<l.length)(hm:l.length<=4611686018427387904)(ho:o<=300)(h0:0<many)(h2:many<=2) :
  Calls Tryz.prog 112 #[v,.int .i64 i,.int .i64 o,.string (bstr s),.string (bstr A),.int .i64 many] w fun e w'=>ExsE l i w w' e (zad l E i o s A many)/\Below w.heap.size w w':=by
 have H:=zh (zd8 l v i s o w hT hi hm);have HS:Hid (zad l E i o s A many=(zay l i s o).andThen fun _ j=>zav l E o A many [] j):=zh rfl;generalize zad l E i o s A many=d at HS ⊢
 cases hen:zay l i s o with
 | err a c =>
  have Hf:Hid (d=.err a c):=zh (by rw[HS.out,hen];rfl)
  have an:a=i/\(c=120∨c=121):=by
   unfold zay at hen;split at hen
   ·cases hen;exact⟨rfl,.inl rfl⟩
   ·split at hen
    ·cases hen;exact⟨rfl,.inr rfl⟩
    ·cases hen
  obtain⟨rfl,L⟩:=an;have ae:(c != 0)=true:=by rcases L with rfl|rfl <;> rfl
  rw[hen] at H;unfold zcE at H;have Hc:=zh L;clear hen L;go_enter Tryz.func112,Tryz.ntmps112
  go_wp2_with fail
  go_at_call 146;refine H.out.mono ?_;rintro W w2⟨rfl,rfl⟩;go_wp2_with fail
  exact yE (v:=.tuple #[.slice none 0 0,.int .i64 a,.int .i64 c]) (by simp[results,Tryz.results112,go_sem]) rfl ⟨by rw[Hf.out];exact⟨rfl,Hc.out,hi⟩,yR _ _⟩
 | ok x j =>
  have hj:j=i+1/\isS l i s=true/\o<200:=by
   unfold zay at hen;split at hen
   ·cases hen
   ·rename_i h1
    split at hen
    ·cases hen
    ·cases hen;exact⟨rfl,by simpa using h1,by omega⟩
  obtain⟨rfl,ac,ay⟩:=hj;have aq:=hG.is_next hi ac;have Hf:Hid (d=zav l E o A (many-0) [] (i+1)):=zh (by rw[HS.out,hen];rfl);rw[hen] at H;unfold zcE at H;have HT:=zh hT;obtain⟨ta,R,rfl,_,_⟩:=Sl.form hT;clear hen ac hT HS;go_enter Tryz.func112,Tryz.ntmps112
  go_wp2_with fail
  go_at_call 146;refine H.out.mono ?_;rintro W w2⟨rfl,rfl⟩;go_wp2_with fail
  go_loopw [1,12,13,14,16,17,18,19,20,33,34,35,36,37,38,39,40,41,42,43,44,45,46,47,48,49,50,51,52,53,54,55,56,57,58,59,60,61,62,63,64] (fun t1 _ _ _ t16 t17 _ _ _ _ _ _ _ _ _ _ _ _ _ _ _ _ _ _ _ _ _ _ _ _ _ _ _ _ _ _ _ _ _ _ _ wr=>∃(k at':Nat) (xs:List Ex) (cs:List Value),k<=many/\xs.length=k/\i<at'/\at'<l.length/\t17=.int .i64 k/\t1=.int .i64 at'/\wr.ownsRow w.heap.size 29 4 t16 k cs/\Hid (ExsC wr (fun g=>w.heap.size<=g/\t16.ownBlock≠some g) xs cs)/\Hid (d=zav l E o A (many-k) xs at')/\Hid (Below w.heap.size w wr)) (fun _ _ _ _ _ t17 _ _ _ _ _ _ _ _ _ _ _ _ _ _ _ _ _ _ _ _ _ _ _ _ _ _ _ _ _ _ _ _ _ _ _ _=>many-(intOf t17).toNat)
  case atStart=>exact⟨0,i+1,[],[],by omega,rfl,by omega,aq,rfl,by first|rfl|go_num,World.ownsRow_nil _ _ _ _,zh .nil,zh Hf.out,zh (yR _ _)⟩
  case round =>
   obtain⟨k,at',xs,cs,hk,G,ax,I,rfl,rfl,hown,HX,Hk,z⟩:=hrel;by_cases az:k<many
   ·have ab:(k:Int)<many:=by omega
    have N:Hid (Toks wr l (.slice ta l.length R)):=zh (Sl.below (by omega) HT.out z.out (zr _));rcases Nat.eq_zero_or_pos k with am|am
    ·have aA:¬0<k:=by omega
     have ad:¬(k:Int)>0:=by omega
     have HK:Hid (d=(E at' (o+1) 1).andThen fun x j=>zav l E o A (many-(k+1)) (xs++[x]) j):=zh (by
      have hn:xs=[]:=List.eq_nil_of_length_eq_zero (by omega);have U:many-k=(many-(k+1))+1:=by omega
      rw[Hk.out,U,zav,yP hn,hn]
      rfl)
     go_wp2_with fail
     have HE:=zh (hE (at') (o+1) 1 _ wr (by omega) (by omega) (by omega) (by omega) N.out);go_at_call 72;refine HE.out.mono ?_;rintro W w2⟨y,K⟩;have f:=zh K;clear K
     cases hEr:E (at') (o+1) 1 with
     | err a c =>
      rw[hEr] at y;obtain⟨ak,n0,nm0,ar,m0,ao,rfl,L,J⟩:=y;have m:Hid (d=.err a c):=zh (by rw[HK.out,hEr];rfl);have ae:(c != 0)=true:=by rcases L with rfl|rfl <;> rfl
      have Hc:=zh L;clear L hEr;have B:w.heap.size<=w2.heap.size:=yT z.out.size f.out.size;go_wp2_with fail
      exact yE (v:=.tuple #[.slice none 0 0,.int .i64 a,.int .i64 c]) (by simp[results,Tryz.results112,go_sem]) rfl ⟨by rw[m.out];exact⟨rfl,Hc.out,J⟩,(z.out.trans (f.out.mono z.out.size)).alloc B _⟩
     | ok x j2 =>
      rw[hEr] at y;obtain⟨v2,rfl,C,av,V⟩:=y;have m:Hid (d=zav l E o A (many-(k+1)) (xs++[x]) j2):=zh (by rw[HK.out,hEr];rfl);clear hEr;obtain⟨au,rfl,C⟩:=C
      cases C with
      | cons g1 g2 g3 g4 =>
      cases g4;rename_i op n name args va ca
      obtain⟨T,u,rfl,af,ai⟩:=Sl.form g1;have O:=zh (ExsC.cons (op:=op) (n:=n) (name:=name) g1 g2 g3 ExsC.nil);clear g1 g2 g3;have B:w.heap.size<=w2.heap.size:=yT z.out.size f.out.size;have F:=(zbu hown f.out (zr _)).alloc (.cells #[.int .u8 op,.int .i64 n,.string (bstr name),.slice T args.length u] 29);have M:=(z.out.trans (f.out.mono z.out.size)).alloc B (.cells #[.int .u8 op,.int .i64 n,.string (bstr name),.slice T args.length u] 29);have Q:=zh M;clear M;go_wp2_with (at_builtin;refine zbj rfl (.tmp 60) (.tmp 62) 27 rfl F zbx Tryz.underlying27 rfl (by decide) rfl 1 1 (by show Value.slice (some ⟨w2.heap.size+1,0,none⟩) 1 1=_;simp) rfl rfl (by unfold maxLen;omega) (by omega) Q.out.size ?_;intro v' w3 D S Y P)
      go_roundw
      case rel=>exact⟨k+1,j2,xs++[.mk op n name args],cs++[.int .u8 op,.int .i64 n,.string (bstr name),.slice T args.length u],by omega,by rw[yA];simp[G],by omega,V,by go_num,rfl,D,zh (zfV hown HX.out f.out O.out z.out.size ((yR _ _).alloc (zr _) _) S P),zh m.out,zh (Q.out.trans Y)⟩
      case measure=>simp[intOf];omega
    ·have ad:(k:Int)>0:=by omega
     have Z:=zh (ze8 l _ at' [44] wr N.out I)
     have HM:Hid (d=if isS l at' [44]=false then .err at' 120 else(E (at'+1) (o+1) 1).andThen fun x j=>zav l E o A (many-(k+1)) (xs++[x]) j):=zh (by
      have hn:¬xs=[]:=by intro h;rw[h] at G;simp at G;omega
      have U:many-k=(many-(k+1))+1:=by omega
      rw[Hk.out,U,zav,yN hn])
     obtain⟨q,hq,ah⟩:∃q:Bool,isS l at' [44]=q/\(q=true->at'+1<l.length):=⟨_,rfl,hG.is_next I⟩;rw[hq] at Z HM;clear hq;cases q
     ·have m:Hid (d=.err at' 120):=zh (by rw[HM.out,yP rfl]);go_wp2_with fail
      go_at_call 114;refine Z.out.mono ?_;rintro W w2⟨rfl,rfl⟩;go_wp2_with fail
      exact yE (v:=.tuple #[.slice none 0 0,.int .i64 at',.int .i64 120]) (by simp[results,Tryz.results112,go_sem]) rfl ⟨by rw[m.out];exact⟨rfl,.inl rfl,I⟩,z.out⟩
     ·have aw:=ah rfl;have HK:Hid (d=(E (at'+1) (o+1) 1).andThen fun x j=>zav l E o A (many-(k+1)) (xs++[x]) j):=zh (by rw[HM.out,yN (by decide)]);clear HM ah;go_wp2_with fail
      go_at_call 114;refine Z.out.mono ?_;rintro W w2⟨rfl,rfl⟩;go_wp2_with fail
      have HE:=zh (hE (at'+1) (o+1) 1 _ wr (by omega) (by omega) (by omega) (by omega) N.out);go_at_call 72;refine HE.out.mono ?_;rintro W w2⟨y,K⟩;have f:=zh K;clear K
      cases hEr:E (at'+1) (o+1) 1 with
      | err a c =>
       rw[hEr] at y;obtain⟨ak,n0,nm0,ar,m0,ao,rfl,L,J⟩:=y;have m:Hid (d=.err a c):=zh (by rw[HK.out,hEr];rfl);have ae:(c != 0)=true:=by rcases L with rfl|rfl <;> rfl
       have Hc:=zh L;clear L hEr;have B:w.heap.size<=w2.heap.size:=yT z.out.size f.out.size;go_wp2_with fail
       exact yE (v:=.tuple #[.slice none 0 0,.int .i64 a,.int .i64 c]) (by simp[results,Tryz.results112,go_sem]) rfl ⟨by rw[m.out];exact⟨rfl,Hc.out,J⟩,(z.out.trans (f.out.mono z.out.size)).alloc B _⟩
      | ok x j2 =>
       rw[hEr] at y;obtain⟨v2,rfl,C,av,V⟩:=y;have m:Hid (d=zav l E o A (many-(k+1)) (xs++[x]) j2):=zh (by rw[HK.out,hEr];rfl);clear hEr;obtain⟨au,rfl,C⟩:=C
       cases C with
       | cons g1 g2 g3 g4 =>
       cases g4;rename_i op n name args va ca
       obtain⟨T,u,rfl,af,ai⟩:=Sl.form g1;have O:=zh (ExsC.cons (op:=op) (n:=n) (name:=name) g1 g2 g3 ExsC.nil);clear g1 g2 g3;have B:w.heap.size<=w2.heap.size:=yT z.out.size f.out.size;have F:=(zbu hown f.out (zr _)).alloc (.cells #[.int .u8 op,.int .i64 n,.string (bstr name),.slice T args.length u] 29);have M:=(z.out.trans (f.out.mono z.out.size)).alloc B (.cells #[.int .u8 op,.int .i64 n,.string (bstr name),.slice T args.length u] 29);have Q:=zh M;clear M;go_wp2_with (at_builtin;refine zbj rfl (.tmp 60) (.tmp 62) 27 rfl F zbx Tryz.underlying27 rfl (by decide) rfl 1 1 (by show Value.slice (some ⟨w2.heap.size+1,0,none⟩) 1 1=_;simp) rfl rfl (by unfold maxLen;omega) (by omega) Q.out.size ?_;intro v' w3 D S Y P)
       go_roundw
       case rel=>exact⟨k+1,j2,xs++[.mk op n name args],cs++[.int .u8 op,.int .i64 n,.string (bstr name),.slice T args.length u],by omega,by rw[yA];simp[G],by omega,V,by go_num,rfl,D,zh (zfV hown HX.out f.out O.out z.out.size ((yR _ _).alloc (zr _) _) S P),zh m.out,zh (Q.out.trans Y)⟩
       case measure=>simp[intOf];omega
   ·obtain rfl:k=many:=by omega
    have ab:¬(k:Int)<k:=by omega
    have N:Hid (Toks wr l (.slice ta l.length R)):=zh (Sl.below (by omega) HT.out z.out (zr _));have Z:=zh (ze8 l _ at' A wr N.out I);have m:Hid (d=if isS l at' A=true then .ok xs (at'+1) else .err at' 120):=zh (by rw[Hk.out,Nat.sub_self,zav]);have O:=HX;have ag:Hid (wr.ownsRow w.heap.size 29 4 u16 xs.length cs):=zh (by rw[G];exact hown);have ap:isS l at' A=true->at'+1<l.length:=hG.is_next I
    generalize isS l at' A=q at *
    clear hown G HX Hk Hf;cases q
    ·have X:Hid (d=.err at' 120):=zh (by rw[m.out,yN (by decide)]);go_wp2_with fail
     go_at_call 114;refine Z.out.mono ?_;rintro W w2⟨rfl,rfl⟩;go_wp2_with fail
     exact yE (v:=.tuple #[.slice none 0 0,.int .i64 at',.int .i64 120]) (by simp[results,Tryz.results112,go_sem]) rfl ⟨by rw[X.out];exact⟨rfl,.inl rfl,I⟩,z.out⟩
    ·have X:Hid (d=.ok xs (at'+1)):=zh (by rw[m.out,yP rfl]);have aj:=ap rfl;go_wp2_with fail
     go_at_call 114;refine Z.out.mono ?_;rintro W w2⟨rfl,rfl⟩;go_wp2_with fail
     exact yE (v:=.tuple #[u16,.int .i64 ((at':Int)+1),.int .i64 0]) (by simp[results,Tryz.results112,go_sem]) rfl ⟨by rw[X.out];exact⟨_,rfl,⟨cs,ag.out,O.out⟩,by omega,aj⟩,z.out⟩
theorem ExsC.set{w:World}{P:Nat->Prop}{xs:List Ex}{cs:List Value}(h:ExsC w P xs cs){b o:Nat}{v:Value}(d:¬P b):ExsC (w.setCell ⟨b,o,none⟩ v) P xs cs:=
 h.grown (⟨rfl,rfl,rfl,by have:=((yR 0 w).setCell (p:=⟨b,o,none⟩) (Nat.zero_le _) v).size;exact this,fun k _ hne=>Below.heap_setCell w _ v k (fun e=>hne (by rw[e]))⟩:w.grownBy (w.setCell ⟨b,o,none⟩ v) (some b)) (fun g e=>by cases e;exact d)
theorem zji(l:List Tok)(E:Nat->Nat->Nat->PR Ex)(v:Value)(i o:Nat)(w:World)(m:Toks w l v)(g:Good l)(hi:i<l.length)(H:l.length<=4611686018427387904)(d:(zaa l i).kind=2) :
  Calls Tryz.prog 148 #[v,.int .i64 i,.int .i64 o] w fun e w'=>zb4 l i w w' e (zah l E i o)/\Below w.heap.size w w':=by
 have f:zah l E i o=.ok (.mk 1 (zaa l i).n [] []) (i+1):=by unfold zah;rw[yP d]
 rw[f];have y:=g.next hi (by rw[d];decide);obtain⟨a,cap,rfl,q,A⟩:=Sl.form m;obtain⟨b,B,rfl,j,I,J,G,F⟩:=zaF m hi;rw[d] at j;have z:(i:Int)<l.length:=by omega
 have C:(i:Int)<=4611686018427387904:=by omega
 have u:b<w.heap.size:=World.block_lt_of_cell? w _ j;have D:¬b=w.heap.size:=by omega
 generalize (zaa l i).n=N at *
 clear f d g;go_enter Tryz.func148,Tryz.ntmps148
 go_wp2_with fail
 exact yE (v:=.tuple #[.agg #[.int .u8 1,.int .i64 N,.string { data:=#[] },.slice none 0 0],.int .i64 ((i:Int)+1),.int .i64 0]) (by simp[results,Tryz.results148,go_sem]) rfl ⟨⟨_,rfl,zcx,by omega,y⟩,((yR _ _).alloc (zr _) _).alloc (by simp) _⟩
theorem opened(w:World)(X Y:List Value)(d f:TypeId):∃W0,W0=(w.alloc (.cells X.toArray d)).alloc (.cells Y.toArray f)/\Below w.heap.size w W0/\OwnV W0 w.heap.size d X/\OwnV W0 (w.heap.size+1) f Y/\w.heap.size+2<=W0.heap.size:=by
 refine⟨_,rfl,((yR _ _).alloc (zr _) _).alloc (by simp) _,(OwnV.new w d X).alloc _,?_,by simp⟩;have:=OwnV.new (w.alloc (.cells X.toArray d)) f Y;simpa using this
def zeroE : List Value := [.int .u8 0, .int .i64 0, .string { data := #[] }, .slice none 0 0]
theorem zjj(l:List Tok)(E:Nat->Nat->Nat->PR Ex)(v:Value)(i o:Nat)(w:World)(hE:ExprC l E i)(I:Toks w l v)(hG:Good l)(hi:i<l.length)(hm:l.length<=4611686018427387904)(ho:o<=300)(V:((zaa l i).kind==2)=false)(hp:isS l i [40]=true) :
  Calls Tryz.prog 148 #[v,.int .i64 i,.int .i64 o] w fun e w'=>zb4 l i w w' e (zah l E i o)/\Below w.heap.size w w':=by
 have W:zah l E i o=(zad l E i o [40] [41] 1).andThen fun xs j=>match xs with
  | x::_=>.ok x j
  | []=>.err j 0:=by unfold zah;rw[yN (by simpa using V),yP hp];rfl
 have HI:Hid (∀w',Below w.heap.size w w'->Calls Tryz.prog 114 #[v,.int .i64 i,.string { data:=#[40] }] w' fun e w''=>e=.returned (.bool true)/\w'=w''):=zh (fun(w':World) (N:Below w.heap.size w w')=>by
  have:=ze8 l v i [40] w' (Sl.below (by omega) I N (zr _)) hi;rw[hp] at this
  exact this)
 have HN:Hid (∀w',Below w.heap.size w w'->Calls Tryz.prog 112 #[v,.int .i64 i,.int .i64 o,.string { data:=#[40] },.string { data:=#[41] },.int .i64 1] w' fun e w''=>ExsE l i w' w'' e (zad l E i o [40] [41] 1)/\Below w'.heap.size w' w''):=zh (fun(w':World) (N:Below w.heap.size w w')=>zcz l E v i o 1 [40] [41] w' hE (Sl.below (by omega) I N (zr _)) hG hi hm ho (by omega) (by omega));have H:Hid (∀ys j,zad l E i o [40] [41] 1=.ok ys j->ys.length=1):=zh (fun ys j h=>zdC h);obtain⟨a,cap,rfl,ad,af⟩:=Sl.form I;obtain⟨b,ac,rfl,Y,c1,c2,c3,c4⟩:=zaF I hi;have ae:(i:Int)<l.length:=by omega
 have ak:(i:Int)<=4611686018427387904:=by omega
 have S:b<w.heap.size:=World.block_lt_of_cell? w _ Y;have P:¬b=w.heap.size:=by omega
 generalize zad l E i o [40] [41] 1=R at *
 rw[W];clear W hp hG hE I
 generalize zaa l i=T at *
 go_enter Tryz.func148,Tryz.ntmps148
 go_wp2_with fail
 obtain⟨W0,z,D,u,F,Q⟩:=opened w zeroE (Tok.cells T) 29 93;simp only[zeroE,Tok.cells] at z u F;rw[<-z];clear z Y c1 c2 c3 c4 S P F V;have L:=zh u;have m:=zh D;clear u D;go_at_call 114;refine(HI.out _ m.out).mono ?_;rintro e1 w1⟨rfl,rfl⟩;go_wp2_with fail
 go_at_call 112;refine(HN.out _ m.out).mono ?_;rintro e2 w2⟨G,y⟩;have f:=L.out.below y (zr _);have C:=zh (m.out.trans (y.mono m.out.size));obtain⟨x0,x1,x2,X⟩:=yc4 f;have f0:=f.free;clear f y
 cases R with
 | err a c =>
  obtain⟨rfl,U,O⟩:=G;have aj:(c != 0)=true:=by rcases U with rfl|rfl <;> rfl
  have Hc:=zh U;clear U;go_wp2_with fail
  refine yE (v:=.tuple #[.agg #[.int .u8 0,.int .i64 0,.string { data:=#[] },.slice none 0 0],.int .i64 a,.int .i64 c]) (by simp[results,Tryz.results148,go_sem,x0,x1,x2,X]) rfl ⟨⟨_,_,_,_,_,_,rfl,Hc.out,O⟩,?_⟩
  exact(((C.out.setCell (zr _) _).setCell (zr _) _).setCell (zr _) _).setCell (zr _) _
 | ok xs j =>
  obtain⟨v2,rfl,⟨cs,hown,A⟩,M,K⟩:=G;replace A:=A.weak1;have q:=H.out xs j rfl;rw[q] at hown;obtain⟨a2,Z,rfl,ah,ag⟩:=Sl.form (Sl.of_own hown);obtain⟨b2,ab,rfl,-,d⟩:=Sl.at (by omega) (Sl.of_own hown) (by omega)
  obtain⟨x,rfl⟩:∃x,xs=[x]:=by
   match xs,q with
   | [x],_=>exact⟨x,rfl⟩
  obtain⟨op,n,name,args,aa,B,rfl,rfl⟩:=A.one;have y0:=d 0 (by omega);have y1:=d 1 (by omega);have y2:=d 2 (by omega);have y3:=d 3 (by omega);simp only[Nat.add_zero] at y0;have ai:w.heap.size+2<=b2:=yT Q (zck hown b2 rfl);have HX:=zh A;clear A hown d q;go_wp2_with fail
  refine yE (v:=.tuple #[.agg #[.int .u8 op,.int .i64 n,.string (bstr name),.slice aa args.length B],.int .i64 j,.int .i64 0]) (by simp[results,Tryz.results148,go_sem,x0,x1,x2,X]) rfl ⟨⟨_,rfl,⟨_,rfl,?_⟩,M,K⟩,(((C.out.setCell (zr _) _).setCell (zr _) _).setCell (zr _) _).setCell (zr _) _⟩;have J:¬W0.heap.size<=w.heap.size:=by omega
  exact((((HX.out.set J).set J).set J).set J).weak fun g _ h=>yT (by omega) h
theorem zal(l:List UInt8)(s:List UInt8):((bstr l).toList==s)=decide (l=s):=by
 rw[Bool.eq_iff_iff,beq_iff_eq,yQ,ByteArray.toList_eq,zdn]
theorem zbO{l:List Tok}{v:Value}{i:Nat}{s:List UInt8}{w:World}(f:Toks w l v)(hi:i<l.length){q:Bool}(hp:isS l i s=q):Hid (∀w',Below w.heap.size w w'->Calls Tryz.prog 114 #[v,.int .i64 i,.string (bstr s)] w' fun e w''=>e=.returned (.bool q)/\w'=w''):=
 zh (fun(w':World) (d:Below w.heap.size w w')=>by
  have:=ze8 l v i s w' (Sl.below (by omega) f d (zr _)) hi;rw[hp] at this
  exact this)
theorem zjk(l:List Tok)(E:Nat->Nat->Nat->PR Ex)(v:Value)(i o:Nat)(w:World)(q:Toks w l v)(hi:i<l.length)(Y:l.length<=4611686018427387904)(A:((zaa l i).kind==2)=false)(u:((zaa l i).kind != 1)=true)(hp:isS l i [40]=false) :
  Calls Tryz.prog 148 #[v,.int .i64 i,.int .i64 o] w fun e w'=>zb4 l i w w' e (zah l E i o)/\Below w.heap.size w w':=by
 have B:zah l E i o=.err i 120:=by unfold zah;rw[yN (by simpa using A),yN (by rw[hp];decide),yP (by simpa using u)]
 rw[B];have F:Hid (∀w',Below w.heap.size w w'->Calls Tryz.prog 114 #[v,.int .i64 i,.string { data:=#[40] }] w' fun e w''=>e=.returned (.bool false)/\w'=w''):=zbO q hi hp;obtain⟨a,cap,rfl,I,L⟩:=Sl.form q;obtain⟨b,G,rfl,C,Q,H,J,D⟩:=zaF q hi;have K:(i:Int)<l.length:=by omega
 have S:(i:Int)<=4611686018427387904:=by omega
 have z:b<w.heap.size:=World.block_lt_of_cell? w _ C;have y:¬b=w.heap.size:=by omega
 clear B hp q
 generalize zaa l i=T at *
 go_enter Tryz.func148,Tryz.ntmps148
 go_wp2_with fail
 obtain⟨V,g,m,d,f,O⟩:=opened w zeroE (Tok.cells T) 29 93;simp only[zeroE,Tok.cells] at g d f;rw[<-g];clear g C Q H J D z y A;have j:=zh m;have t0:=f.cell (i:=0) rfl;obtain⟨P,R,N,M⟩:=yc4 d;have U:=d.free;clear d m f;go_at_call 114;refine(F.out _ j.out).mono ?_;rintro W X⟨rfl,rfl⟩;go_wp2_with fail
 refine yE (v:=.tuple #[.agg #[.int .u8 0,.int .i64 0,.string { data:=#[] },.slice none 0 0],.int .i64 i,.int .i64 120]) (by simp[results,Tryz.results148,go_sem,P,R,N,M]) rfl ⟨⟨_,_,_,_,_,_,rfl,.inl rfl,hi⟩,?_⟩;exact(((j.out.setCell (zr _) _).setCell (zr _) _).setCell (zr _) _).setCell (zr _) _
theorem ziG(l:List Tok)(E:Nat->Nat->Nat->PR Ex)(v:Value)(i o:Nat)(w:World)(hE:ExprC l E i)(V:Toks w l v)(hG:Good l)(hi:i<l.length)(hm:l.length<=4611686018427387904)(ho:o<=300)(P:(zaa l i).kind=1)(hp:isS l i [40]=false)(hK:0<zap (zaa l i).text) :
  Calls Tryz.prog 148 #[v,.int .i64 i,.int .i64 o] w fun e w'=>zb4 l i w w' e (zah l E i o)/\Below w.heap.size w w':=by
 have hf:zah l E i o=(zad l E (i+1) o [91] [93] 1).map (.mk 3 (zap (zaa l i).text) []):=by
  unfold zah;rw[yN (by rw[P];decide),yN (by rw[hp];decide),yN (by rw[P];decide),yP hK]
 have hn:=hG.next hi (by rw[P];decide);have HI:Hid (∀w',Below w.heap.size w w'->Calls Tryz.prog 114 #[v,.int .i64 i,.string { data:=#[40] }] w' fun e w''=>e=.returned (.bool false)/\w'=w''):=zbO V hi hp;have HN:Hid (∀w',Below w.heap.size w w'->Calls Tryz.prog 112 #[v,.int .i64 ((i:Int)+1),.int .i64 o,.string { data:=#[91] },.string { data:=#[93] },.int .i64 1] w' fun e w''=>ExsE l (i+1) w' w'' e (zad l E (i+1) o [91] [93] 1)/\Below w'.heap.size w' w''):=zh (fun(w':World) (hb:Below w.heap.size w w')=>zcz l E v (i+1) o 1 [91] [93] w' (hE.mono (by omega)) (Sl.below (by omega) V hb (zr _)) hG hn hm ho (by omega) (by omega));have HK:Hid (∀w:World,_):=zh (fun w:World=>zb6 (zaa l i).text w);have ae:=zdg (zaa l i).text;obtain⟨a,cap,rfl,ah,aj⟩:=Sl.form V;obtain⟨b,af,rfl,c0,c1,c2,c3,c4⟩:=zaF V hi;have ai:(i:Int)<l.length:=by omega
 have ao:(i:Int)<=4611686018427387904:=by omega
 have ac:b<w.heap.size:=World.block_lt_of_cell? w _ c0;have ab:¬b=w.heap.size:=by omega
 rw[P] at c0
 generalize zad l E (i+1) o [91] [93] 1=R at *
 rw[hf];clear hf hp hG hE V P
 generalize (zaa l i).text=S at *
 generalize (zaa l i).n=N at *
 generalize (zaa l i).line=L at *
 generalize (zaa l i).col=C at *
 generalize zap S=K at *
 have an:(K:Int)>0:=by omega
 go_enter Tryz.func148,Tryz.ntmps148
 go_wp2_with fail
 obtain⟨W0,M,T,d,u,ad⟩:=opened w zeroE (Tok.cells ⟨1,S,N,L,C⟩) 29 93;simp only[zeroE,Tok.cells] at M d u;rw[<-M];clear M c0 c1 c2 c3 c4 ac ab;have I:=zh T;have Q:=zh d;have U:=zh u;obtain⟨t0,t1⟩:=yc2 u;clear d T u;go_at_call 114;refine(HI.out _ I.out).mono ?_;rintro e1 w1⟨rfl,rfl⟩;go_wp2_with fail
 go_at_call 24;refine(HK.out _).mono ?_;rintro e2 w2⟨rfl,m⟩;have H:=zh (I.out.trans (m.mono I.out.size));have z:=zh (Q.out.below m (zr _));have G:=zh (U.out.below m (zr _));have D:=yT ad m.size;clear m t0 t1 Q U;go_wp2_with fail
 go_at_call 112;refine(HN.out _ H.out).mono ?_;rintro e3 w3⟨O,y⟩;have q:=zh (H.out.trans (y.mono H.out.size));have A:=zh (z.out.below y (zr _));have t1:=(G.out.below y (zr _)).cell (i:=1) rfl;clear y z G
 cases R with
 | err a c =>
  obtain⟨rfl,hc,aa⟩:=O;have Hc:=zh hc;clear hc;go_wp2_with fail
  go_at_call 24;refine(HK.out _).mono ?_;rintro e4 w4⟨rfl,f⟩;have d:=A.out.below f (zr _);obtain⟨x0,x1,x2,x3⟩:=yc4 d;have f0:=d.free;have J:=zh (q.out.trans (f.mono q.out.size));clear d f t1;go_wp2_with fail
  refine yE (v:=.tuple #[.agg #[.int .u8 3,.int .i64 K,.string { data:=#[] },.slice none 0 0],.int .i64 a,.int .i64 c]) (by simp[results,Tryz.results148,go_sem,x0,x1,x2,x3]) rfl ⟨⟨_,_,_,_,_,_,rfl,Hc.out,aa⟩,?_⟩
  exact(((J.out.setCell (zr _) _).setCell (zr _) _).setCell (zr _) _).setCell (zr _) _
 | ok xs j =>
  obtain⟨v2,rfl,⟨cs,hown,W⟩,ag,Y⟩:=O;replace W:=W.weak1;obtain⟨a2,B,rfl,am,ak⟩:=Sl.form (Sl.of_own hown);have HX:=zh W;have F:=zh hown;clear W hown;go_wp2_with fail
  go_at_call 24;refine(HK.out _).mono ?_;rintro e4 w4⟨rfl,f⟩;have d:=A.out.below f (zr _);obtain⟨x0,x1,x2,x3⟩:=yc4 d;have f0:=d.free;have J:=zh (q.out.trans (f.mono q.out.size));have Z:=zh f;clear d f t1;go_wp2_with fail
  refine yE (v:=.tuple #[.agg #[.int .u8 3,.int .i64 K,.string { data:=#[] },.slice a2 xs.length B],.int .i64 j,.int .i64 0]) (by simp[results,Tryz.results148,go_sem,x0,x1,x2,x3]) rfl ⟨⟨_,rfl,⟨_,rfl,?_⟩,by omega,Y⟩,(((J.out.setCell (zr _) _).setCell (zr _) _).setCell (zr _) _).setCell (zr _) _⟩;have X:¬w.heap.size+2<=w.heap.size:=by omega
  have h1:ExsC w4 (fun g=>w.heap.size+2<=g) [.mk 3 K [] xs] [.int .u8 3,.int .i64 K,.string (bstr []),.slice a2 xs.length B]:=by
   have:=ExsC.cons (op:=3) (n:=(K:Int)) (name:=[]) (Sl.of_own F.out) (.inr fun g hg=>yT D (zck F.out g hg)) (HX.out.weak fun g _ h=>yT D h) ExsC.nil;exact this.under Z.out (zr _)
  exact((((h1.set X).set X).set X).set X).weak fun g _ h=>by omega
end Go.Proofs.YtoaojdobjinhfaaGreatDoor
