/- The reference parser's value, walked; the contracts of the readers of statements. -/
import Derived.Test.YtoaojdobjinhfaaGreatDoorRParIPz
set_option linter.unusedSimpArgs false
set_option linter.unusedVariables false
set_option maxRecDepth 100000
set_option maxHeartbeats 1000000
namespace Go.Proofs.YtoaojdobjinhfaaGreatDoor
open Go.RowKit

theorem zeH(l:List Tok)(v:Value)(hG:Good l)(hm:l.length<=4611686018427387904)(i o:Nat)(w:World)(hT:Toks w l v)(hi:i<l.length)(ho:o<=300) :
  Calls Tryz.prog 113 #[v,.int .i64 i,.int .i64 o] w fun e w'=>zb4 l i w w' e (zaz l i o)/\Below w.heap.size w w':=by
 obtain⟨Y,G⟩:∃q,isS l i [61]=q:=⟨_,rfl⟩;have ab:Hid (∀w',Below w.heap.size w w'->Calls Tryz.prog 114 #[v,.int .i64 i,.string { data:=#[61] }] w' fun e w''=>e=.returned (.bool Y)/\w'=w''):=zbO hT hi G;have HT:=zh hT;have A:Y=true->i+1<l.length:=fun h=>hG.is_next hi (by rw[G,h])
 have HE:Hid (Y=true->∀w',Below w.heap.size w w'->Calls Tryz.prog 72 #[v,.int .i64 ((i:Int)+1),.int .i64 o,.int .i64 1] w' fun e w''=>zb4 l (i+1) w' w'' e (zaA l (i+1) o 1)/\Below w'.heap.size w' w''):=zh (fun h w' hb=>ziI l v hG hm (i+1) o 1 w' (Sl.below (by omega) hT hb (zr _)) (A h) ho (by omega));have HS:Hid (∀j,j<l.length->∀q,isS l j [59]=q->Hid (∀w',Below w.heap.size w w'->Calls Tryz.prog 114 #[v,.int .i64 j,.string { data:=#[59] }] w' fun e w''=>e=.returned (.bool q)/\w'=w'')):=zh (fun j hj q hq=>zbO hT hj hq);have V:Hid (zaz l i o=if Y=false then .err i 120 else(zaA l (i+1) o 1).andThen fun x j=>if isS l j [59]=false then .err j 120 else .ok x (j+1)):=zh (by rw[zaz,G]);have U:Hid (∀j,j<l.length->isS l j [59]=true->j+1<l.length):=zh (fun j hj h=>hG.is_next hj h);obtain⟨d,J⟩:∃r,zaz l i o=r:=⟨_,rfl⟩;rw[J] at V ⊢;have C:=OwnV.new w 29 zeroE;have M:Below w.heap.size w (w.alloc (.cells zeroE.toArray 29)):=(yR _ _).alloc (zr _) _;obtain⟨W0,F⟩:∃W0,W0=w.alloc (.cells zeroE.toArray 29):=⟨_,rfl⟩;rw[<-F] at C M;simp only[zeroE] at F;have L:=zh C;have z:=zh M;have ak:w.heap.size<W0.heap.size:=C.lt;have an:(i:Int)<=4611686018427387904:=by omega
 generalize zaA l (i+1) o 1=R at *
 clear J G hT C M;go_enter Tryz.func113,Tryz.ntmps113
 go_wp2_with fail
 rw[<-F];clear F;go_at_call 114;refine(ab.out _ z.out).mono ?_;rintro e1 w1⟨rfl,rfl⟩
 cases Y with
 | false =>
  have ac:Hid (d=.err i 120):=zh (by rw[V.out,yP rfl]);obtain⟨Q,T,P,O⟩:=yc4 L.out;have f0:=L.out.free;go_wp2_with fail
  refine yE (v:=.tuple #[.agg #[.int .u8 0,.int .i64 0,.string { data:=#[] },.slice none 0 0],.int .i64 i,.int .i64 120]) (by simp[results,Tryz.results113,go_sem,Q,T,P,O]) rfl ⟨by rw[ac.out];exact⟨_,_,_,_,_,_,rfl,.inl rfl,hi⟩,?_⟩
  exact(((z.out.setCell (zr _) _).setCell (zr _) _).setCell (zr _) _).setCell (zr _) _
 | true =>
  have Z:=zh (HE.out rfl);have aj:=A rfl;go_wp2_with fail
  go_at_call 72;refine(Z.out _ z.out).mono ?_;rintro e2 w2⟨X,E⟩;have I:=zh (L.out.below E (zr _));have ah:w.heap.size+1<=w2.heap.size:=by have:=E.size;omega
  have D:=zh (z.out.trans (E.mono z.out.size));clear E HE Z ab A
  cases R with
  | err a2 c =>
   obtain⟨op,n,nm,ad,m,cp,rfl,hc,af⟩:=X;have y:Hid (d=.err a2 c):=zh (by rw[V.out,yN (by decide)];rfl);have Hc:=zh hc;have am:(c != 0)=true:=by rcases hc with rfl|rfl <;> rfl
   have u:=I.out.alloc (.cells #[.int .u8 op,.int .i64 n,.string nm,.slice ad m cp] 29);obtain⟨Q,T,P,O⟩:=yc4 u;have f0:=u.free;clear hc u;go_wp2_with fail
   refine yE (v:=.tuple #[.agg #[.int .u8 op,.int .i64 n,.string nm,.slice ad m cp],.int .i64 a2,.int .i64 c]) (by simp[results,Tryz.results113,go_sem,Q,T,P,O]) rfl ⟨by rw[y.out];exact⟨_,_,_,_,_,_,rfl,Hc.out,af⟩,?_⟩
   exact((((D.out.alloc D.out.size _).setCell (zr _) _).setCell (zr _) _).setCell (zr _) _).setCell (zr _) _
  | ok x j =>
   obtain⟨v2,rfl,⟨cs,rfl,hX⟩,ai,K⟩:=X;obtain⟨op,n,name,args,S,f,rfl,rfl⟩:=hX.one;obtain⟨q2,H⟩:∃q,isS l j [59]=q:=⟨_,rfl⟩;have W:=HS.out j K q2 H;have y:Hid (d=if q2=false then .err j 120 else .ok (.mk op n name args) (j+1)):=zh (by rw[V.out,yN (by decide),<-H];rfl);have A:q2=true->j+1<l.length:=fun h=>U.out j K (by rw[H,h])
   have u:=I.out.alloc (.cells #[.int .u8 op,.int .i64 n,.string (bstr name),.slice S args.length f] 29);have ag:=OwnV.new w2 29 [.int .u8 op,.int .i64 n,.string (bstr name),.slice S args.length f];obtain⟨Q,T,P,O⟩:=yc4 u;have f0:=u.free;have B:=zh (D.out.alloc D.out.size (.cells #[.int .u8 op,.int .i64 n,.string (bstr name),.slice S args.length f] 29));have HX:=zh (hX.under ((yR _ _).alloc (zr _) (.cells #[.int .u8 op,.int .i64 n,.string (bstr name),.slice S args.length f] 29)) (zr _));have hP:¬W0.heap.size<=w.heap.size:=by omega
   have HP:=zh hP;clear u ag hX H V HS U hP
   cases q2 with
   | false =>
    have N:Hid (d=.err j 120):=zh (by rw[y.out,yP rfl]);clear y;go_wp2_with fail
    go_at_call 114;refine(W.out _ B.out).mono ?_;rintro e3 w3⟨rfl,rfl⟩;go_wp2_with fail
    refine yE (v:=.tuple #[.agg #[.int .u8 op,.int .i64 n,.string (bstr name),.slice S args.length f],.int .i64 j,.int .i64 120]) (by simp[results,Tryz.results113,go_sem,Q,T,P,O]) rfl ⟨by rw[N.out];exact⟨_,_,_,_,_,_,rfl,.inl rfl,K⟩,?_⟩
    exact(((B.out.setCell (zr _) _).setCell (zr _) _).setCell (zr _) _).setCell (zr _) _
   | true =>
    have ae:=A rfl;have N:Hid (d=.ok (.mk op n name args) (j+1)):=zh (by rw[y.out,yN (by decide)]);clear y;go_wp2_with fail
    go_at_call 114;refine(W.out _ B.out).mono ?_;rintro e3 w3⟨rfl,rfl⟩;go_wp2_with fail
    refine yE (v:=.tuple #[.agg #[.int .u8 op,.int .i64 n,.string (bstr name),.slice S args.length f],.int .i64 ((j:Int)+1),.int .i64 0]) (by simp[results,Tryz.results113,go_sem,Q,T,P,O]) rfl ⟨?_,(((B.out.setCell (zr _) _).setCell (zr _) _).setCell (zr _) _).setCell (zr _) _⟩;rw[N.out];exact⟨_,rfl,⟨_,rfl,((((HX.out.set HP.out).set HP.out).set HP.out).set HP.out).weak fun g _ h=>by omega⟩,by omega,ae⟩
def zb5 (l : List Tok) (i : Nat) (w w' : World) (e : Ending) : PR St -> Prop
  | .ok x j => ∃ v, e = .returned (.tuple #[v, .int .i64 j, .int .i64 0]) /\ StV w' (fun g => w.heap.size <= g) x v /\ i < j /\ j < l.length
  | .err a c => ∃ (op n : Int) (nm : ByteArray) (a1 a2 a3 : Option Addr) (m1 m2 m3 c1 c2 c3 : Nat), e = .returned (.tuple #[.agg #[.int .u8 op, .int .i64 n, .string nm, .slice a1 m1 c1, .slice a2 m2 c2, .slice a3 m3 c3], .int .i64 a, .int .i64 c]) /\ (c = 120 ∨ c = 121) /\ a < l.length
def StsE (l : List Tok) (i : Nat) (w w' : World) (e : Ending) : PR (List St) -> Prop
  | .ok xs j => ∃ v, e = .returned (.tuple #[v, .int .i64 j, .int .i64 0]) /\ (∃ cs, w'.ownsRow w.heap.size 56 6 v xs.length cs /\ StsC w' (fun g => w.heap.size <= g) xs cs) /\ i < j /\ j < l.length
  | .err a c => e = .returned (.tuple #[.slice none 0 0, .int .i64 a, .int .i64 c]) /\ (c = 120 ∨ c = 121) /\ a < l.length
def StmtC (l : List Tok) (S : Nat -> Nat -> PR St) (i : Nat) : Prop :=
  ∀ (k o : Nat) (v : Value) (w : World), i < k -> k < l.length -> o <= 300 -> Toks w l v ->
    Calls Tryz.prog 71 #[v, .int .i64 k, .int .i64 o] w fun e w' => zb5 l k w w' e (S k o) /\ Below w.heap.size w w'
theorem StmtC.mono{l:List Tok}{S:Nat->Nat->PR St}{i j:Nat}(h:StmtC l S i)(d:i<=j):StmtC l S j:=
 fun k o v w h1 h2 h3 h4=>h k o v w (by omega) h2 h3 h4
theorem zhj:(Tryz.prog.info? 56).map (fun i=>(i.zero,i.size,i.bytes))=some (some (.agg #[.int .u8 0,.int .i64 0,.string ByteArray.empty,.slice none 0 0,.slice none 0 0,.slice none 0 0]),6,104):=by kernel_rfl
theorem zhk(l:List Tok)(S:Nat->Nat->PR St)(v:Value)(i o:Nat)(w:World)(hS:StmtC l S i)(Y:Toks w l v)(hG:Good l)(hi:i<l.length)(hm:l.length<=1000000)(ho:o<=300) :
  Calls Tryz.prog 147 #[v,.int .i64 i,.int .i64 o] w fun e w'=>StsE l i w w' e (zaB l S i o)/\Below w.heap.size w w':=by
 have f:Hid (Calls Tryz.prog 146 #[v,.int .i64 i,.string { data:=#[123] },.int .i64 o] w _):=zh (zd8 l v i [123] o w Y hi (by omega));have W:Hid (zaB l S i o=(zay l i [123] o).andThen fun _ j=>zaX l S o (l.length+1-j) [] j):=zh rfl;generalize zaB l S i o=d at W ⊢
 cases hen:zay l i [123] o with
 | err a c =>
  have Hf:Hid (d=.err a c):=zh (by rw[W.out,hen];rfl)
  have af:a=i/\(c=120∨c=121):=by
   unfold zay at hen;split at hen
   ·cases hen;exact⟨rfl,.inl rfl⟩
   ·split at hen
    ·cases hen;exact⟨rfl,.inr rfl⟩
    ·cases hen
  obtain⟨rfl,G⟩:=af;have ah:(c != 0)=true:=by rcases G with rfl|rfl <;> rfl
  rw[hen] at f;unfold zcE at f;have Hc:=zh G;clear hen G;go_enter Tryz.func147,Tryz.ntmps147
  go_wp2_with fail
  go_at_call 146;refine f.out.mono ?_;rintro X w2⟨rfl,rfl⟩;go_wp2_with fail
  exact yE (v:=.tuple #[.slice none 0 0,.int .i64 a,.int .i64 c]) (by simp[results,Tryz.results147,go_sem]) rfl ⟨by rw[Hf.out];exact⟨rfl,Hc.out,hi⟩,yR _ _⟩
 | ok x j =>
  have hj:j=i+1/\isS l i [123]=true/\o<200:=by
   unfold zay at hen;split at hen
   ·cases hen
   ·rename_i h1
    split at hen
    ·cases hen
    ·cases hen;exact⟨rfl,by simpa using h1,by omega⟩
  obtain⟨rfl,Q,ap⟩:=hj;have ad:=hG.is_next hi Q;have Hf:Hid (d=zaX l S o (l.length+1-(i+1)) [] (i+1)):=zh (by rw[W.out,hen];rfl);rw[hen] at f;unfold zcE at f;have HT:=zh Y;obtain⟨ta,z,rfl,_,_⟩:=Sl.form Y;clear hen Q Y W;go_enter Tryz.func147,Tryz.ntmps147
  go_wp2_with fail
  go_at_call 146;refine f.out.mono ?_;rintro X w2⟨rfl,rfl⟩;go_wp2_with fail
  go_loopw [1,6,7,8,10,11,12,13,25,26,27,28,29,30,31,32,33,34,35,36,37,38,39,40,41,42,43,44,45,46] (fun t1 _ _ _ t10 _ _ _ _ _ _ _ _ _ _ _ _ _ _ _ _ _ _ _ _ _ _ _ _ _ wr=>∃(k at':Nat) (F:Nat) (xs:List St) (cs:List Value),xs.length=k/\k<=at'/\i<at'/\at'<l.length/\l.length-at'<F/\t1=.int .i64 at'/\wr.ownsRow w.heap.size 56 6 t10 k cs/\Hid (StsC wr (fun g=>w.heap.size<=g/\t10.ownBlock≠some g) xs cs)/\Hid (d=zaX l S o F xs at')/\Hid (Below w.heap.size w wr)) (fun t1 _ _ _ _ _ _ _ _ _ _ _ _ _ _ _ _ _ _ _ _ _ _ _ _ _ _ _ _ _ _=>l.length-(intOf t1).toNat)
  case atStart=>exact⟨0,i+1,l.length+1-(i+1),[],[],rfl,by omega,by omega,ad,by omega,by first|rfl|go_num,World.ownsRow_nil _ _ _ _,zh .nil,zh Hf.out,zh (yR _ _)⟩
  case round =>
   obtain⟨k,at',F,xs,cs,D,am,ao,N,hF,rfl,hown,HX,Hk,A⟩:=hrel;obtain⟨F,rfl⟩:∃F',F=F'+1:=⟨F-1,by omega⟩;have L:Hid (Toks wr l (.slice ta l.length z)):=zh (Sl.below (by omega) HT.out A.out (zr _));obtain⟨q,Z⟩:∃q,isS l at' [125]=q:=⟨_,rfl⟩;have HI:Hid (∀w',Below wr.heap.size wr w'->Calls Tryz.prog 114 #[.slice ta l.length z,.int .i64 at',.string { data:=#[125] }] w' fun e w''=>e=.returned (.bool q)/\w'=w''):=zbO L.out N Z;have u:Hid (d=if q=true then .ok xs (at'+1) else(S at' (o+1)).andThen fun x j=>zaX l S o F (xs++[x]) j):=zh (by rw[Hk.out,zaX,Z]);have O:q=true->at'+1<l.length:=fun h=>hG.is_next N (by rw[Z,h])
   have aj:(at':Int)<=1000000:=by omega
   clear Z Hk
   cases q with
   | true =>
    have m:Hid (d=.ok xs (at'+1)):=zh (by rw[u.out,yP rfl]);have B:Hid (StsC wr (fun g=>w.heap.size<=g) xs cs):=zh (HX.out.weak fun g _ h=>h.1);have T:Hid (wr.ownsRow w.heap.size 56 6 u10 xs.length cs):=zh (by rw[D];exact hown);have U:=O rfl;clear hown D HX u;go_wp2_with fail
    go_at_call 114;refine(HI.out _ (yR _ _)).mono ?_;rintro X w2⟨rfl,rfl⟩;go_wp2_with fail
    exact yE (v:=.tuple #[u10,.int .i64 ((at':Int)+1),.int .i64 0]) (by simp[results,Tryz.results147,go_sem]) rfl ⟨by rw[m.out];exact⟨_,rfl,⟨cs,T.out,B.out⟩,by omega,U⟩,A.out⟩
   | false =>
    have HK:Hid (d=(S at' (o+1)).andThen fun x j=>zaX l S o F (xs++[x]) j):=zh (by rw[u.out,yN (by decide)]);have aa:=zh (hS at' (o+1) _ wr (by omega) (by omega) (by omega) L.out)
    generalize S at' (o+1)=R at *
    clear u O;go_wp2_with fail
    go_at_call 114;refine(HI.out _ (yR _ _)).mono ?_;rintro X w2⟨rfl,rfl⟩;go_wp2_with fail
    go_at_call 71;refine aa.out.mono ?_;rintro X w2⟨P,C⟩;have y:=zh C;have K:w.heap.size<=w2.heap.size:=yT A.out.size C.size;clear C
    cases R with
    | err a c =>
     obtain⟨op,n,nm,a1,a2,a3,m1,m2,m3,p1,p2,p3,rfl,G,J⟩:=P;have m:Hid (d=.err a c):=zh HK.out;have ah:(c != 0)=true:=by rcases G with rfl|rfl <;> rfl
     have Hc:=zh G;clear G;go_wp2_with fail
     exact yE (v:=.tuple #[.slice none 0 0,.int .i64 a,.int .i64 c]) (by simp[results,Tryz.results147,go_sem]) rfl ⟨by rw[m.out];exact⟨rfl,Hc.out,J⟩,(A.out.trans (y.out.mono A.out.size)).alloc K _⟩
    | ok x j2 =>
     obtain⟨v2,rfl,⟨ak,rfl,I⟩,an,ac⟩:=P;obtain⟨op,n,name,es,body,els,ae,ab,al,pe,pb,pl,rfl,rfl⟩:=I.one;have m:Hid (d=zaX l S o F (xs++[.mk op n name es body els]) j2):=zh HK.out;have B:=zh I;have H:=(zbu hown y.out (zr _)).alloc (.cells #[.int .u8 op,.int .i64 n,.string (bstr name),.slice ae es.length pe,.slice ab body.length pb,.slice al els.length pl] 56);have V:=zh ((A.out.trans (y.out.mono A.out.size)).alloc K (.cells #[.int .u8 op,.int .i64 n,.string (bstr name),.slice ae es.length pe,.slice ab body.length pb,.slice al els.length pl] 56));clear I;go_wp2_with (at_builtin;refine zbj rfl (.tmp 42) (.tmp 44) 24 rfl H zhj Tryz.underlying24 rfl (by decide) rfl 1 1 (by show Value.slice (some ⟨w2.heap.size+1,0,none⟩) 1 1=_;simp) rfl rfl (by unfold maxLen;omega) (by omega) V.out.size ?_;intro v' w3 E ag ai M)
     go_roundw
     case rel=>exact⟨k+1,j2,F,xs++[.mk op n name es body els],cs++[.int .u8 op,.int .i64 n,.string (bstr name),.slice ae es.length pe,.slice ab body.length pb,.slice al els.length pl],by rw[yA];simp[D],by omega,by omega,ac,by omega,rfl,E,zh (ziF hown HX.out y.out B.out A.out.size ((yR _ _).alloc (zr _) _) ag M),m,zh (V.out.trans ai)⟩
     case measure=>simp[intOf];omega
def EsV (w : World) (m : Nat) (xs : List Ex) (v : Value) : Prop := ∃ cs, Sl w 4 xs.length cs v /\ (xs.length = 0 ∨ ∀ g, v.ownBlock = some g -> m <= g) /\ ExsC w (fun g => m <= g) xs cs
def SsV (w : World) (m : Nat) (xs : List St) (v : Value) : Prop := ∃ cs, Sl w 6 xs.length cs v /\ (xs.length = 0 ∨ ∀ g, v.ownBlock = some g -> m <= g) /\ StsC w (fun g => m <= g) xs cs
theorem EsV.below{w w':World}{m:Nat}{xs:List Ex}{v:Value}(h:EsV w m xs v)(d:Below w.heap.size w w'):EsV w' m xs v:=by
 obtain⟨cs,g,f,i⟩:=h;exact⟨cs,g.below (by omega) d (zr _),f,i.under d (zr _)⟩
theorem SsV.below{w w':World}{m:Nat}{xs:List St}{v:Value}(h:SsV w m xs v)(d:Below w.heap.size w w'):SsV w' m xs v:=by
 obtain⟨cs,g,f,i⟩:=h;exact⟨cs,g.below (by omega) d (zr _),f,i.under d (zr _)⟩
theorem EsV.grown{w w':World}{m g:Nat}{xs:List Ex}{v:Value}(h:EsV w m xs v)(f:w.grownBy w' (some g))(q:g<m):EsV w' m xs v:=by
 obtain⟨cs,j,d,l⟩:=h;have i:∀k,some g=some k->¬m<=k:=fun k e=>by cases e;omega
 exact⟨cs,j.grownP (P:=fun g=>m<=g) f i d,d,l.grown f i⟩
theorem SsV.grown{w w':World}{m g:Nat}{xs:List St}{v:Value}(h:SsV w m xs v)(f:w.grownBy w' (some g))(q:g<m):SsV w' m xs v:=by
 obtain⟨cs,j,d,l⟩:=h;have i:∀k,some g=some k->¬m<=k:=fun k e=>by cases e;omega
 exact⟨cs,j.grownP (P:=fun g=>m<=g) f i d,d,l.grown f i⟩
theorem EsV.of_own{w:World}{m B:Nat}{e:TypeId}{xs:List Ex}{v:Value}{cs:List Value}(h:w.ownsRow B e 4 v xs.length cs)(f:ExsC w (fun g=>B<=g) xs cs)(d:m<=B):EsV w m xs v:=
 ⟨cs,Sl.of_own h,.inr fun g hg=>yT d (zck h g hg),f.weak fun _ _ h=>yT d h⟩
theorem SsV.of_own{w:World}{m B:Nat}{e:TypeId}{xs:List St}{v:Value}{cs:List Value}(h:w.ownsRow B e 6 v xs.length cs)(f:StsC w (fun g=>B<=g) xs cs)(d:m<=B):SsV w m xs v:=
 ⟨cs,Sl.of_own h,.inr fun g hg=>yT d (zck h g hg),f.weak fun _ _ h=>yT d h⟩
theorem StsC.len{w:World}{P:Nat->Prop}{xs:List St}{cs:List Value}(h:StsC w P xs cs):cs.length=xs.length*6:=by
 induction h with
 | nil=>rfl
 | cons _ _ _ _ _ _ _ _ _ _ _ _ ih=>simp only[yB,ih];omega
theorem SsV.nil(w:World)(m:Nat):SsV w m [] (.slice none 0 0):=⟨[],Sl.nil w 6,.inl rfl,.nil⟩
theorem EsV.nil(w:World)(m:Nat):EsV w m [] (.slice none 0 0):=⟨[],Sl.nil w 4,.inl rfl,.nil⟩
theorem SsV.new{w2 f:World}{m g:Nat}{e:TypeId}{xs:List St}{cs:List Value}(d:Below w2.heap.size w2 f)(q:OwnV f g e cs)(i:StsC w2 (fun g=>m<=g) xs cs)(l:m<=g)(j:xs.length<=1000):SsV f m xs (.slice (some ⟨g,0,none⟩) xs.length xs.length):=
 ⟨cs,zb7 q i.len (zr _) (by omega),.inr fun k h=>by cases h;exact l,i.under d (zr _)⟩
theorem EsV.new{w2 f:World}{m g:Nat}{e:TypeId}{xs:List Ex}{cs:List Value}(d:Below w2.heap.size w2 f)(q:OwnV f g e cs)(i:ExsC w2 (fun g=>m<=g) xs cs)(l:m<=g)(j:xs.length<=1000):EsV f m xs (.slice (some ⟨g,0,none⟩) xs.length xs.length):=
 ⟨cs,zb7 q i.len (zr _) (by omega),.inr fun k h=>by cases h;exact l,i.under d (zr _)⟩
theorem EsV.form{w:World}{m:Nat}{xs:List Ex}{v:Value}(h:EsV w m xs v):∃a cap,v=.slice a xs.length cap:=by
 obtain⟨cs,d,-⟩:=h;obtain⟨a,cap,e,-⟩:=Sl.form d;exact⟨a,cap,e⟩
theorem SsV.form{w:World}{m:Nat}{xs:List St}{v:Value}(h:SsV w m xs v):∃a cap,v=.slice a xs.length cap:=by
 obtain⟨cs,d,-⟩:=h;obtain⟨a,cap,e,-⟩:=Sl.form d;exact⟨a,cap,e⟩
theorem zc6{w:World}{m B:Nat}{op n:Int}{name:List UInt8}{es:List Ex}{body els:List St}{f vb d:Value}(q:EsV w m es f)(j:SsV w m body vb)(u:SsV w m els d)(v:B<=m):StV w (fun g=>B<=g) (.mk op n name es body els) (.agg #[.int .u8 op,.int .i64 n,.string (bstr name),f,vb,d]):=by
 obtain⟨E,a1,a2,z⟩:=q;obtain⟨F,y,b2,A⟩:=j;obtain⟨D,l,i,C⟩:=u;exact⟨_,rfl,(StsC.cons (P:=fun g=>m<=g) a1 a2 z y b2 A l i C .nil).weak fun g _ h=>yT v h⟩
def zbh : List Value := [.int .u8 0, .int .i64 0, .string { data := #[] }, .slice none 0 0, .slice none 0 0, .slice none 0 0]
theorem set1{W:World}{g:Nat}{e:TypeId}{vs:List Value}(h:OwnV W g e vs)(i:Nat)(v:Value):∃W',W'=W.setCell ⟨g,i,none⟩ v/\OwnV W' g e (vs.set i v)/\W.grownBy W' (some g):=⟨_,rfl,h.set i v,zaY _ _ _ _⟩
theorem set6(W:World)(g:Nat)(v0 v1 v2 v3 v4 v5:Value) :
  ∃W',W'=(((((W.setCell ⟨g,0,none⟩ v0).setCell ⟨g,1,none⟩ v1).setCell ⟨g,2,none⟩ v2).setCell ⟨g,3,none⟩ v3).setCell ⟨g,4,none⟩ v4).setCell ⟨g,5,none⟩ v5/\W.grownBy W' (some g):=
 ⟨_,rfl,zbc (zbc (zbc (zbc (zbc (zaY _ _ _ _) (zaY _ _ _ _)) (zaY _ _ _ _)) (zaY _ _ _ _)) (zaY _ _ _ _)) (zaY _ _ _ _)⟩
theorem ze9{l:List Tok}(f:Good l)(d:l.length<=4611686018427387904)(i:Nat):ExprC l (zaA l) i:=fun k o least v w _ h2 h3 h4 h5=>ziI l v f d k o least w h5 h2 h3 h4
end Go.Proofs.YtoaojdobjinhfaaGreatDoor
