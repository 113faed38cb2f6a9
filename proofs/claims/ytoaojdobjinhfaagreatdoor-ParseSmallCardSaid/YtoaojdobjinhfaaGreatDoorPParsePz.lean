/- The program's Parse and Expr, walked. -/
import Derived.Test.YtoaojdobjinhfaaGreatDoorBackSPz
import Derived.Test.YtoaojdobjinhfaaGreatDoorPaRPz
import Derived.Test.YtoaojdobjinhfaaGreatDoorPenvMPz
set_option linter.unusedSimpArgs false
set_option linter.unusedVariables false
set_option maxRecDepth 100000
set_option maxHeartbeats 1000000
namespace Go.Proofs.YtoaojdobjinhfaaGreatDoor
open Go.RowKit

theorem zln{w:World}{l:List Tok}{v:Value}{g:Nat}{e:TypeId}{vs:List Value}(f:Toks w l v)(m:0<l.length)(h:OwnV w g e vs)(q:vs.length<5):∀b,v.ownBlock=some b->b≠g:=by
 intro b j;obtain⟨a,cap,rfl,-,-⟩:=Sl.form f;obtain⟨u,i,rfl,-,-,-,-,d⟩:=zaF f m;cases j;rintro rfl;unfold OwnV at h;simp only[World.cell?,h,List.getElem?_toArray] at d;rw[List.getElem?_eq_none (by omega)] at d;cases d
def ofRR (r : RR (List St)) : ParR := match r with
  | .ok xs => .ok xs
  | .err a b c => .err a b c
theorem zms(d:List UInt8):zbg d=ofRR (zdp d fun l=>allS l (l.length+1) [] 0):=by
 unfold zbg zdp
 cases lexS d with
 | err a b c=>rfl
 | ok l =>
  show(match allS l (l.length+1) [] 0 with
   | .ok xs _=>ParR.ok xs
   | .err i c=>.err (zaa l i).line (zaa l i).col c)=ofRR (zeD l (allS l (l.length+1) [] 0))
  cases h:allS l (l.length+1) [] 0 with
  | err i c=>rfl
  | ok xs j=>rw[ze7 (znf _ _ _ _ _ h)];rfl
def ofRX (r : RR Ex) : ParX := match r with
  | .ok x => .ok x
  | .err a b c => .err a b c
theorem zmt(f:List UInt8):zbT f=ofRX (zdp f fun l=>zbv l 0 0):=by
 unfold zbT zdp
 cases lexS f with
 | err a b c=>rfl
 | ok l =>
  show(match zf4 l with
   | .ok x _=>ParX.ok x
   | .err i c=>.err (zaa l i).line (zaa l i).col c)=ofRX (zeD l (zbv l 0 0))
  have g:zf4 l=(zaA l 0 0 1).andThen fun x j=>if(zaa l j).kind=4 then .ok x j else .err j 120:=rfl
  rcases zfP l 0 0 with e|⟨x,j,q,m,u⟩
  ·rw [e,g]
   cases zaA l 0 0 1 with
   | err i c=>rfl
   | ok x j =>
    show(match (if(zaa l j).kind=4 then PR.ok x j else .err j 120) with
      | .ok x _=>ParX.ok x
      | .err i c=>.err (zaa l i).line (zaa l i).col c)=_
    by_cases d:(zaa l j).kind=4
    ·rw[ze7 d,yP d];rfl
    ·rw[zfR d,yN d];rfl
  ·rw[g,q,m,zfR (fun h=>by have:=zdw h;omega)];rfl
theorem zgi{d:List UInt8}{a b c:Int}(h:zbg d=.err a b c):c≠0:=by
 unfold zbg at h
 cases hl:lexS d with
 | err a' b' c'=>rw[hl] at h;cases h;exact zd9 hl
 | ok l =>
  rw[hl] at h
  cases ha:allS l (l.length+1) [] 0 with
  | ok xs j=>simp only[ha] at h;cases h
  | err i c' =>
   simp only[ha] at h;cases h;exact(all_cd l _ _ _ _ _ (by omega) (Nat.zero_le _) ha).ne
theorem ziW{f:List UInt8}{a b c:Int}(h:zbT f=.err a b c):c≠0:=by
 unfold zbT at h
 cases hl:lexS f with
 | err a' b' c'=>rw[hl] at h;cases h;exact zd9 hl
 | ok l =>
  rw[hl] at h
  cases ha:zf4 l with
  | ok xs j=>simp only[ha] at h;cases h
  | err i c' =>
   simp only[ha] at h;cases h;rcases PR.bind_err ha with d|⟨x,j,-,d⟩
   ·exact(zeA l 0 _ _ _ _ _ (Nat.zero_le _) (Nat.zero_le _) d).ne
   ·split at d
    ·cases d
    ·cases d;decide
def PrgE (w w' : World) (e : Ending) : ParR -> Prop
  | .ok xs => ∃ v, e = .returned (.tuple #[v, .int .i64 0, .int .i64 0, .int .i64 0]) /\ (∃ cs, w'.ownsRow w.heap.size 56 6 v xs.length cs /\ StsC w' (fun g => w.heap.size <= g) xs cs)
  | .err a b c => e = .returned (.tuple #[.slice none 0 0, .int .i64 a, .int .i64 b, .int .i64 c]) /\ c ≠ 0
theorem zj3{W:World}{p gl m:Nat}{v:Value}{l:List Tok}(h:PSt W p v l 0 0)(H:PEnv l)(q:OwnV W gl 24 [.slice none 0 0])(f:gl≠p)(P:m<=W.heap.size) :
  Calls Tryz.prog 59 #[.pointer (some ⟨p,0,none⟩),.pointer (some ⟨gl,0,none⟩)] W (OpE l p v 0 (fun b=>b=p∨b=gl) W (TsBox m gl) (allS l (l.length+1) [] 0)):=by
 have y:=zh (zio h H);have z:=zln h.toks h.here q (by decide);have N:=zh q;have I:=q.lt;rw[Nat.sub_zero] at y
 generalize allS l (l.length+1) [] 0=R at *
 clear h H q;go_enter Tryz.func59,Tryz.ntmps59
 go_wp2_with fail
 go_at_call 60;refine y.out.mono ?_;intro S F d;clear y
 cases R with
 | err a c =>
  obtain⟨d,g⟩:=d;unfold Bad at d;subst d;have C:=zh g;clear g;go_wp2_with fail
  exact⟨rfl,rfl,C.out.mono fun _ _ e=>.inl e⟩
 | ok xs j =>
  obtain⟨u,rfl,⟨cs,A,D⟩,E,B⟩:=d;have J:Hid (TsV W.heap.size F xs u):=zh ⟨cs,A,D⟩;obtain⟨O,cap,rfl,-,-⟩:=Sl.form (Sl.of_own A);have w:=B.own N.out f;have T:=w.cell (i:=0) rfl;have Q:=w.free;have M:=zh w;have K:=zh E;have L:=zh B;clear A D w E B;go_wp2_with fail
  have G:=(Turns.refl gl F).set 0 (.slice O xs.length cap);exact yE (results_none rfl _ _ _) rfl ⟨rfl,⟨_,M.out.set 0 _,(J.out.only G (fun b e=>by omega)).low P⟩,K.out.only G (fun e=>f e.symm) (fun b hb e=>z b hb e),(L.out.mono fun _ _ e=>.inl e).setCell (.inr (.inr rfl)) _⟩
theorem zho(args:Array Value)(W:World):(callFunc 59 args).run Tryz.prog W=.ok (.enter 59 args) W:=(enters_of (P:=Tryz.prog) Tryz.func59 (by kernel_rfl) rfl) args W
theorem zbP{w:World}(E:Glob w)(s:ByteArray)(J:s.size<=9223372036854775807) :
  Calls Tryz.prog 31 #[.string s] w fun e w'=>PrgE w w' e (zbg s.data.toList)/\Below w.heap.size w w':=by
 obtain⟨j,y,f,g⟩:∃j,j=w.alloc (.cells #[.slice none 0 0] 24)/\Below w.heap.size w j/\OwnV j w.heap.size 24 [.slice none 0 0]:=⟨_,rfl,(yR _ _).alloc (zr _) _,OwnV.new _ _ _⟩;have O:=zmf Tryz.prog
 have M:=g.lt
 have G:=zh (zhd (E.below f E.size) s J 59 w.heap.size (fun b=>b=w.heap.size) (fun b e=>by omega) (TsBox (j.heap.size+3) w.heap.size) (fun l=>allS l (l.length+1) [] 0)
  (fun W W' x hx ho=>by
   obtain⟨u,B,A⟩:=hx
   exact⟨u,ho.own B (fun e=>by omega),A.only ho (fun b e=>e.2)⟩)
  zho (fun l p v W hlx hb hp hP=>zj3 hP (zfQ hlx) (g.below hb (zr _)) (by omega) (by have:=hP.lt;omega)))
 have d:∀a b c,zbg s.data.toList=.err a b c->c≠0:=fun a b c h=>zgi h
 rw[zms] at d ⊢
 generalize (zdp s.data.toList fun l=>allS l (l.length+1) [] 0)=R at *
 have D:=zh y;have m:=zh f;clear y f g E;go_enter Tryz.func31,Tryz.ntmps31
 go_upto_region 2 with(fail)
 rw[<-D.out];go_wp2_with fail
 go_at_call 58;refine G.out.mono ?_;intro Q H q;clear G
 cases R with
 | err a b c =>
  obtain⟨rfl,z⟩:=q;have F:=d a b c rfl;have P:(c != 0)=true:=by simpa using F
  have L:=zh F;have C:Hid (Below w.heap.size w H):=zh ((Only.of_below (S:=fun b=>b=w.heap.size) m.out).trans z |>.below (fun k e=>by omega) (zr _));clear F z d;go_wp2_with fail
  exact yE (v:=.tuple #[.slice none 0 0,.int .i64 a,.int .i64 b,.int .i64 c]) (by simp[results,Tryz.results31,go_sem]) rfl ⟨⟨rfl,L.out⟩,C.out⟩
 | ok xs =>
  obtain⟨rfl,⟨u,B,⟨cs,I,A⟩⟩,z⟩:=q;have T:=B.cell (i:=0) rfl;have C:Hid (Below w.heap.size w H):=zh ((Only.of_below (S:=fun b=>b=w.heap.size) m.out).trans z |>.below (fun k e=>by omega) (zr _));have K:=zh (zeg I (show w.heap.size<=_ by omega));have N:=zh A;clear B I A z d;go_wp2_with fail
  exact yE (v:=.tuple #[u,.int .i64 0,.int .i64 0,.int .i64 0]) (by simp[results,Tryz.results31,go_sem]) rfl ⟨⟨u,rfl,cs,K.out,N.out.weak fun b _ h=>by have:=h.1;omega⟩,C.out⟩
def ExpE (w w' : World) (e : Ending) : ParX -> Prop
  | .ok x => ∃ v, e = .returned (.tuple #[v, .int .i64 0, .int .i64 0, .int .i64 0]) /\ ExN w.heap.size w' x v
  | .err a b c => e = .returned (.tuple #[.agg #[.int .u8 0, .int .i64 0, .string { data := #[] }, .slice none 0 0], .int .i64 a, .int .i64 b, .int .i64 c]) /\ c ≠ 0
theorem zlo{W:World}{p gx m:Nat}{v:Value}{l:List Tok}(h:PSt W p v l 0 0)(E:PEnv l)(i:OwnV W gx 29 zeroE)(f:gx≠p)(N:gx<m)(U:m<=W.heap.size) :
  Calls Tryz.prog 64 #[.pointer (some ⟨p,0,none⟩),.pointer (some ⟨gx,0,none⟩)] W (OpE l p v 0 (fun b=>b=p∨b=gx) W (ExBox m gx) (zbv l 0 0)):=by
 have y:=zh (ze0 E (l.length+1-0) 0 0 _ W (zr _) (zr _) (by omega) h);have A:=zln h.toks h.here i (by decide);have M:=zh i;have F:=i.lt;rw[show zbI l (l.length+1-0) 0 0=zbv l 0 0 from rfl] at y
 generalize zbv l 0 0=R at *
 clear h E i;go_enter Tryz.func64,Tryz.ntmps64
 go_wp2_with fail
 go_at_call 65;refine y.out.mono ?_;intro S H d;clear y
 cases R with
 | err a c =>
  obtain⟨d,g⟩:=d;unfold Bad at d;subst d;have z:=zh g;clear g;go_wp2_with fail
  exact⟨rfl,rfl,z.out.mono fun _ _ e=>.inl e⟩
 | ok x j =>
  obtain⟨u,rfl,⟨cs,rfl,w⟩,C,B⟩:=d;obtain⟨op,n,name,args⟩:=x;obtain⟨L,cap,rfl⟩:=w.form1;have q:=B.own M.out f;obtain⟨T,V,Q,O⟩:=yc4 q;have P:=q.free;have K:=zh q;have G:=zh w;have I:=zh C;have J:=zh B;clear w q C B;go_wp2_with fail
  have D:=((((Turns.refl gx H).set 0 (.int .u8 op)).set 1 (.int .i64 n)).set 2 (.string (bstr name))).set 3 (.slice L args.length cap);exact yE (results_none rfl _ _ _) rfl ⟨rfl,⟨_,(((K.out.set 0 _).set 1 _).set 2 _).set 3 _,(G.out.only D (fun b hb e=>by omega)).weak fun b _ h=>⟨by omega,by omega⟩⟩,I.out.only D (fun e=>f e.symm) (fun b hb e=>A b hb e),((((J.out.mono fun _ _ e=>.inl e).setCell (.inr (.inr rfl)) _).setCell (.inr (.inr rfl)) _).setCell (.inr (.inr rfl)) _).setCell (.inr (.inr rfl)) _⟩
theorem zia(args:Array Value)(W:World):(callFunc 64 args).run Tryz.prog W=.ok (.enter 64 args) W:=(enters_of (P:=Tryz.prog) Tryz.func64 (by kernel_rfl) rfl) args W
theorem zew{w:World}(I:Glob w)(s:ByteArray)(L:s.size<=9223372036854775807) :
  Calls Tryz.prog 34 #[.string s] w fun e w'=>ExpE w w' e (zbT s.data.toList)/\Below w.heap.size w w':=by
 obtain⟨N,B,f,q,i,X⟩:=opened w zeroE zeroE 29 29;have Q:=zmf Tryz.prog
 have O:=i.lt
 have K:=zh (zhd (I.below f I.size) s L 64 (w.heap.size+1) (fun b=>b=w.heap.size+1) (fun b e=>by omega) (ExBox (N.heap.size+3) (w.heap.size+1)) (fun l=>zbv l 0 0)
  (fun W W' x hx ho=>by
   obtain⟨cs,C,m⟩:=hx
   exact⟨cs,ho.own C (fun e=>by omega),m.only ho (fun b hb e=>by have:=hb.1;omega)⟩)
  zia (fun l p v W hlx hb hp hP=>zlo hP (zfQ hlx) (i.below hb (zr _)) (by omega) (by omega) (by have:=hP.lt;omega)))
 have d:∀a b c,zbT s.data.toList=.err a b c->c≠0:=fun a b c h=>ziW h
 rw[zmt] at d ⊢
 generalize (zdp s.data.toList fun l=>zbv l 0 0)=R at *
 have A:=zh B;have u:=zh f;have y:=zh q;simp only[zeroE] at A;clear B f i I q;go_enter Tryz.func34,Tryz.ntmps34
 go_upto_region 2 with(fail)
 rw[<-A.out];go_wp2_with fail
 go_at_call 58;refine K.out.mono ?_;intro e1 F z;clear K
 cases R with
 | err a b c =>
  obtain⟨rfl,j⟩:=z;have J:=d a b c rfl;have V:(c != 0)=true:=by simpa using J
  have M:=zh J;have H:Hid (Below w.heap.size w F):=zh ((Only.of_below (S:=fun b=>b=w.heap.size+1) u.out).trans j |>.below (fun k e=>by omega) (zr _));have g:=j.own y.out (by omega);obtain⟨D,G,b2,E⟩:=yc4 g;have U:=g.free;clear J j d g;go_wp2_with fail
  exact yE (v:=.tuple #[.agg #[.int .u8 0,.int .i64 0,.string { data:=#[] },.slice none 0 0],.int .i64 a,.int .i64 b,.int .i64 c]) (by simp[results,Tryz.results34,go_sem,D,G,b2,E]) rfl ⟨⟨rfl,M.out⟩,(((H.out.setCell (zr _) _).setCell (zr _) _).setCell (zr _) _).setCell (zr _) _⟩
 | ok x =>
  obtain⟨rfl,⟨cs,C,m⟩,j⟩:=z;obtain⟨op,n,name,args⟩:=x;obtain⟨T,cap,rfl⟩:=m.form1;obtain⟨x0,x1,Z,Y⟩:=yc4 C;have H:Hid (Below w.heap.size w F):=zh ((Only.of_below (S:=fun b=>b=w.heap.size+1) u.out).trans j |>.below (fun k e=>by omega) (zr _));have g:=j.own y.out (by omega);obtain⟨D,G,b2,E⟩:=yc4 g;have U:=g.free;have P:=zh m;clear C m j d g;go_wp2_with fail
  refine yE (v:=.tuple #[.agg #[.int .u8 op,.int .i64 n,.string (bstr name),.slice T args.length cap],.int .i64 0,.int .i64 0,.int .i64 0]) (by simp[results,Tryz.results34,go_sem,D,G,b2,E]) rfl ⟨⟨_,rfl,_,rfl,?_⟩,(((H.out.setCell (zr _) _).setCell (zr _) _).setCell (zr _) _).setCell (zr _) _⟩;exact(P.out.only (S:=fun b=>b=w.heap.size) (((((Turns.refl w.heap.size F).set _ _).set _ _).set _ _).set _ _) (fun b hb e=>by have:=hb.1;omega)).weak fun b _ hb=>by have:=hb.1;omega
end Go.Proofs.YtoaojdobjinhfaaGreatDoor
