/- The parser looks at kinds, texts and numbers of tokens only: the joined tokens of a source are parsed to the same. Plain mathematics. -/
import Derived.Test.YtoaojdobjinhfaaGreatDoorRLnAPz
import Derived.Test.YtoaojdobjinhfaaGreatDoorWPShowsPz
set_option linter.unusedSimpArgs false
set_option linter.unusedVariables false
set_option maxRecDepth 100000
set_option maxHeartbeats 1000000
namespace Go.Proofs.YtoaojdobjinhfaaGreatDoor
structure Alike (l m : List Tok) : Prop where
  len : l.length = m.length
  kind : ∀ i, (zaa l i).kind = (zaa m i).kind
  text : ∀ i, (zaa l i).text = (zaa m i).text
  n : ∀ i, (zaa l i).n = (zaa m i).n
open Go.RowKit

def PAns (xs : List St) (a b c : Int) (w : World) (e : Ending) (w' : World) : Prop :=
  (∃ p cap, e = .returned (.tuple #[.slice p xs.length cap, .int .i64 a, .int .i64 b, .int .i64 c]) /\ SsL w' w'.heap.size xs (.slice p xs.length cap)) /\ Below w.heap.size w w'
inductive PsC (s : ByteArray) : List St -> Int -> Int -> Int -> Prop where
  | err (a b c : Int) (h : c ≠ 0) : PsC s [] a b c
  | ok (xs : List St) (h : zbg s.data.toList = .ok xs) : PsC s xs 0 0 0

theorem zl1(s:ByteArray)(f:s.size<=9223372036854775807):∃(xs:List St) (a b c:Int),
  (∀w:World,Glob w->Calls Tryz.prog 31 #[.string s] w (PAns xs a b c w))/\(∀w:World,Calls Tryz.prog 39 #[.string s] w (PAns xs a b c w)):=by
 cases h:zbg s.data.toList with
 | ok xs =>
  refine⟨xs,0,0,0,fun w hG=>?_,fun w=>?_⟩
  ·have H:=zbP hG s f;rw[h] at H;refine H.mono ?_;rintro e w'⟨⟨v,rfl,g⟩,d⟩;have hS:=zeM g;obtain⟨a,cap,rfl,-,-⟩:=hS.form;exact⟨⟨a,cap,rfl,hS⟩,d⟩
  ·have H:=zfa s w f;rw[h] at H;refine H.mono ?_;rintro e w'⟨⟨v,rfl,g⟩,d⟩;have hS:=zeM g;obtain⟨a,cap,rfl,-,-⟩:=hS.form
   exact⟨⟨a,cap,rfl,hS⟩,d⟩
 | err a b c =>
  refine⟨[],a,b,c,fun w hG=>?_,fun w=>?_⟩
  ·have H:=zbP hG s f;rw[h] at H;refine H.mono ?_;rintro e w'⟨⟨rfl,-⟩,d⟩;exact⟨⟨none,0,rfl,SsL.nil _ _⟩,d⟩
  ·have H:=zfa s w f;rw[h] at H;refine H.mono ?_;rintro e w'⟨⟨rfl,-⟩,d⟩;exact⟨⟨none,0,rfl,SsL.nil _ _⟩,d⟩
theorem zkY(s:ByteArray)(B:s.size<=9223372036854775807)(w:World)(A:Glob w):Calls Tryz.prog 14 #[.string s] w (YesE w):=by
 obtain⟨xs,a,b,c,y,q⟩:=zl1 s B;unfold PAns at y q;have F:=zh (y w A);have C:=zh q;have E:=A.size;clear y q A B;go_enter Tryz.func14,Tryz.ntmps14
 go_wp2_with fail
 go_at_call 31;refine F.out.mono ?_;rintro M N⟨⟨K,O,rfl,g⟩,l⟩;have z:=zh g;have i:=zh l;clear g l;go_wp2_with fail
 go_at_call 39;refine(C.out _).mono ?_;rintro G w2⟨⟨J,I,rfl,m⟩,d⟩;have f:=zh (i.out.trans (d.mono i.out.size));have D:=zh (zjX (szSs xs+1) xs _ _ w2 w2.heap.size (by omega) ((z.out.low d).mono d.size) m (zr _));clear m d;go_wp2_with fail
 go_at_call 32;refine D.out.mono ?_;rintro H L⟨rfl,j⟩;have u:=zh (f.out.trans (j.mono f.out.size));clear j;go_wp2_with fail
 exact yE (v:=.bool true) (by simp[results,Tryz.results14,go_sem]) rfl ⟨rfl,u.out⟩

theorem lines_le(tabs:List UInt8)(l:List St)(k:Nat):(zaM tabs (l.take k)).length<=(zaM tabs l).length:=by
 have h:zaM tabs l=zaM tabs (l.take k)++zaM tabs (l.drop k):=by rw[<-zhf,List.take_append_drop]
 rw[h,yA];omega
theorem rlines_of{B d:Nat}{l:List St}(q:∀s∈l,OnR B d s):LnR B d l:=by
 intro v tabs w P H ht T;obtain⟨a,cap,rfl,Z,aa⟩:=H.form;have M:(bstr tabs).size<=100:=by rw[zaC];omega
 have f:Hid (∀k,(bstr (zaM tabs (l.take k))).size<=1000000000000000):=zh (fun k=>by rw[zaC];exact yT (lines_le tabs l k) T)
 have D:Hid (∀(k:Nat) (op n:Int) (name:List UInt8) (es:List Ex) (body els:List St) (E vb F:Value) (W:World),l[k]? = some (.mk op n name es body els)->Below w.heap.size w W->EsL W B es E->SsL W B body vb->SsL W B els F ->
   (bstr (oneW tabs (.mk op n name es body els))).size<=1000000000000000/\bstr (zaM tabs (l.take (k+1)))=((bstr (zaM tabs (l.take k))++bstr tabs)++bstr (oneW tabs (.mk op n name es body els)))++{ data:=#[10] } /\
   Calls Tryz.prog 119 #[.agg #[.int .u8 op,.int .i64 n,.string (bstr name),E,vb,F],.string (bstr tabs)] W (TxtE (oneW tabs (.mk op n name es body els)) W)):=zh (fun k op n name es body els E vb F W hk hb h1 h2 h3=>by
  have hm:St.mk op n name es body els∈l:=List.mem_of_getElem? hk;have g:=zkt (tabs:=tabs) hk
  have j:(oneW tabs (.mk op n name es body els)).length<=1000000000000000:=by
   have Q:=g.2;rw[g.1] at Q;simp only[yA,yB,yL] at Q;omega
  refine⟨by rw[zaC];exact j,?_,q _ hm op n name es body els E vb F tabs W rfl (yT P hb.size) h1 h2 h3 ht j⟩;rw[g.1,show({ data:=#[10] }:ByteArray)=bstr [10] from rfl]
  simp[zax])
 have L:=zh H;obtain⟨TB,y⟩:∃S,bstr tabs=S:=⟨_,rfl⟩;rw[y] at D M ⊢;have ad:(l.length:Int)<=9223372036854775807:=by omega
 clear q H ht T y;go_enter Tryz.func74,Tryz.ntmps74
 go_wp2_with fail
 go_loopw [5,6,7,8,9,10,11,12,13,14,15,16,17,18,19,20,21,22,23] (fun t5 t6 _ _ _ _ _ _ _ _ _ _ _ _ _ _ _ _ _ wr=>∃k:Nat,k<=l.length/\t6=.int .i64 k/\t5=.string (bstr (zaM tabs (l.take k)))/\Hid (Below w.heap.size w wr)) (fun _ t6 _ _ _ _ _ _ _ _ _ _ _ _ _ _ _ _ _ _=>l.length-(intOf t6).toNat)
 case atStart=>exact⟨0,by omega,by first|rfl|go_num,rfl,zh (yR _ _)⟩
 case round =>
  obtain⟨k,hk,rfl,rfl,z⟩:=hrel;by_cases I:k<l.length
  ·have R:(k:Int)<l.length:=by omega
   have C:=L.out.low (z.out.mono P);obtain⟨b,X,op,n,name,es,body,els,ae,ce,ab,cb,al,cl,rfl,-,-,O,c0,c1,Y,c3,V,c5,U,m,i⟩:=C.at I;obtain⟨ac,u,G⟩:=D.out k op n name es body els _ _ _ wr O z.out U m i;have af:=f.out k;unfold TxtE at G
   generalize bstr (oneW tabs (.mk op n name es body els))=SO at *
   generalize bstr (zaM tabs (l.take k))=S at *
   have K:=zh u;have N:=zh G;clear G u U m i C O D L f;go_wp2_with fail
   go_at_call 119;refine N.out.mono ?_;rintro e1 w1⟨rfl,A⟩;have J:=zh (z.out.trans (A.mono z.out.size));clear A c0 c1 Y c3 V c5;go_wp2_with fail
   go_roundw
   case rel=>exact⟨k+1,by omega,by go_num,by rw[K.out],J⟩
   case measure=>simp[intOf];omega
  ·obtain rfl:k=l.length:=by omega
   rw[List.take_length];obtain⟨S,hS⟩:∃S,bstr (zaM tabs l)=S:=⟨_,rfl⟩;rw[hS];have HS:=zh hS;clear hS;clear D L f;go_wp2_with fail
   exact yE (v:=.string S) (by simp[results,Tryz.results74,go_sem]) rfl ⟨by rw[HS.out],z.out⟩
theorem wordS_len'{s:List UInt8}(h:zaP s=true):s.length<=24:=zcS (zbG h).1
theorem ron_all(B:Nat):∀(d:Nat) (s:St),ShpT d s->OnR B d s:=by
 intro d
 induction d with
 | zero=>intro s h;cases h
 | succ d ih =>
  intro s h;have D:∀l:List St,(∀s∈l,ShpT d s)->LnR B d l:=fun l hl=>rlines_of fun s hs=>ih s (hl s hs)
  cases h with
  | letS h he =>
   intro C E f A g m G vb F tabs w e y u q v ht i;cases e;rw[zju]
   exact ro_let (wordS_len' h) he u q v y ht
  | setS h he =>
   intro C E f A g m G vb F tabs w e y u q v ht i;cases e;rw[zjv]
   exact ro_set (wordS_len' h) he u q v y ht
  | @putS _ n e1 e2 h0 h1' he he' =>
   intro C E f A g m G vb F tabs w e y u q v ht i;cases e;obtain⟨N,rfl⟩:∃N:Nat,n=(N:Int)+1:=⟨(n-1).toNat,by omega⟩;rw[zjw,show((N:Int)+1-1).toNat=N from by omega]
   exact ro_put (by omega) he he' u q v y ht
  | stopS h =>
   intro C E f A g m G vb F tabs w e y u q v ht i;cases e;rcases h with rfl|rfl
   ·rw[zhZ];exact ro_stop u q v y ht
   ·rw[zh0];exact ro_fail u q v y ht
  | @whileS _ x body he hb =>
   intro C E f A g m G vb F tabs w e y u q v ht i;cases e;rw[zgX] at i ⊢;unfold zaZ at i ⊢
   exact ro_while he (D _ hb) (by simp only[yA,yB,yL] at i;omega) u q v y ht
  | @ifS _ x body els he hb hl =>
   intro C E f A g m G vb F tabs w e y u q v ht i;cases e
   cases els with
   | nil =>
    rw[zjx] at i ⊢;unfold zaZ at i ⊢
    exact ro_none he (D _ hb) (by simp only[yA,yB,yL] at i;omega) u q v y ht
   | cons z r =>
    cases r with
    | nil =>
     by_cases H:opT z=4
     ·rw[zjy _ _ _ _ H] at i ⊢;unfold zaZ at i ⊢;have j:=i;simp only[yA,yB,yL] at j;exact ro_elif he (D _ hb) (by omega) H (ih z (hl z (by simp))) (by omega) u q v y ht
     ·rw[zgG _ _ _ _ _ (by cases z;show(_==_)=false;rw[beq_eq_false_iff_ne];exact H)] at i ⊢;unfold zaZ at i ⊢;have j:=i;simp only[yA,yB,yL] at j
      exact ro_else1 he (D _ hb) (by omega) H (D _ hl) (by omega) u q v y ht
    | cons z2 r2 =>
     rw[znm _ _ _ (by simp)] at i ⊢;unfold zaZ at i ⊢;have j:=i;simp only[yA,yB,yL] at j;exact ro_else2 he (D _ hb) (by omega) (by simp) (D _ hl) (by omega) u q v y ht
theorem refText_any{w:World}{B:Nat}{l:List St}{v:Value}(y:okSs l)(H:SsL w B l v)(J:B<=w.heap.size)(K:szSs l<=100000000000) :
  Calls Tryz.prog 43 #[v] w (zks (zhE l) w):=by
 have A:=zh (printable_any l v w B y H J)
 have z:Hid (zaJ 40 l=true->∀W,Below w.heap.size w W->Calls Tryz.prog 74 #[v,.string (bstr [])] W (TxtE (zaM [] l) W)):=zh (fun hr W hb=>by
  have E:=zk1 40 l hr y;have U:=zmE E
  exact rlines_of (d:=40) (fun s hs=>ron_all B 40 s (E s hs)) v [] W (yT J hb.size) (H.low (hb.mono J)) (by simp) (by omega))
 have m:zhE l=if zaJ 40 l=true then zdN (zaM [] l) else([],2):=rfl
 obtain⟨V,X,rfl,N,M⟩:=H.form;clear y H K
 generalize zaM [] l=T at *
 generalize zhE l=R at *
 generalize zaJ 40 l=q at *
 cases q with
 | false =>
  rw[yN (by decide)] at m;have F:=zh m;clear m z;go_enter Tryz.func43,Tryz.ntmps43
  go_wp2_with fail
  go_at_call 44;refine A.out.mono ?_;rintro O I⟨rfl,g⟩;have f:=zh g;clear g;go_wp2_with fail
  exact yE (v:=.tuple #[.string { data:=#[] },.int .i64 2]) (by simp[results,Tryz.results43,go_sem]) rfl ⟨by rw[F.out];rfl,f.out⟩
 | true =>
  rw[yP rfl] at m;have G:=zh (z.out rfl);have D:zdN T=if 16384<T.length then([],3) else(T,0):=rfl
  rw[D] at m;obtain⟨S,hS⟩:∃S,bstr T=S:=⟨_,rfl⟩;have L:S.size=T.length:=by rw[<-hS,zaC]
  unfold TxtE at G;rw[hS] at G;have Q:=zh hS;clear z D;by_cases i:16384<T.length
  ·rw[yP i] at m;have F:=zh m;have u:(S.size:Int)>16384:=by omega
   clear m hS L i;go_enter Tryz.func43,Tryz.ntmps43
   go_wp2_with fail
   go_at_call 44;refine A.out.mono ?_;rintro O I⟨rfl,g⟩;have f:=zh g;clear g;go_wp2_with fail
   go_at_call 74;refine(G.out I f.out).mono ?_;rintro P w2⟨rfl,j⟩;have C:=zh (f.out.trans (j.mono f.out.size));clear j;go_wp2_with fail
   exact yE (v:=.tuple #[.string { data:=#[] },.int .i64 3]) (by simp[results,Tryz.results43,go_sem]) rfl ⟨by rw[F.out];rfl,C.out⟩
  ·rw[yN i] at m;have F:=zh m;have u:¬(S.size:Int)>16384:=by omega
   clear m hS L i;go_enter Tryz.func43,Tryz.ntmps43
   go_wp2_with fail
   go_at_call 44;refine A.out.mono ?_;rintro O I⟨rfl,g⟩;have f:=zh g;clear g;go_wp2_with fail
   go_at_call 74;refine(G.out I f.out).mono ?_;rintro P w2⟨rfl,j⟩;have C:=zh (f.out.trans (j.mono f.out.size));clear j;go_wp2_with fail
   exact yE (v:=.tuple #[.string S,.int .i64 0]) (by simp[results,Tryz.results43,go_sem]) rfl ⟨by rw[F.out,<-Q.out],C.out⟩

theorem writes_any{l:List St}{v:Value}{w:World}(d:okSs l)(B:SsL w w.heap.size l v)(hs:szSs l<=400)(T:Glob w) :
  Calls Tryz.prog 18 #[v] w (YesE w):=by
 have Q:=T.size;obtain⟨a,cap,rfl,aa,ab⟩:=B.form;have I:Hid (Calls Tryz.prog 42 #[.slice a l.length cap] w _):=zh (copySs_any (szSs l+1) l _ w w.heap.size (by omega) (by omega) B (zr _));have U:Hid (∀(W:World) (v:Value),Below w.heap.size w W->SsL W W.heap.size l v->Calls Tryz.prog 29 #[v] W (zks (zhE l) W)):=zh (fun W v hb h=>zmF (T.below hb Q) d h (zr _) (by omega));have N:Hid (∀W:World,Below w.heap.size w W->Calls Tryz.prog 43 #[.slice a l.length cap] W (zks (zhE l) W)):=zh (fun W hb=>refText_any d (B.low hb) hb.size (by omega));have P:Hid (∀(W:World) (v:Value),SsL W W.heap.size l v->Calls Tryz.prog 30 #[v] W (zbe (zaJ 40 l) W)):=zh (fun W v h=>zem l v W W.heap.size d h (zr _));have V:Hid (∀W:World,Below w.heap.size w W->Calls Tryz.prog 44 #[.slice a l.length cap] W (zbe (zaJ 40 l) W)):=zh (fun W hb=>printable_any l _ W w.heap.size d (B.low hb) hb.size);have Y:Hid (∀(W:World) (v:Value),Below w.heap.size w W->SsL W W.heap.size l v->Calls Tryz.prog 32 #[v,.slice a l.length cap] W (YesE W)):=zh (fun W v hb h=>zjX (szSs l+1) l _ _ W W.heap.size (by omega) h (SsL.mono (B.low hb) hb.size) (zr _));unfold zks at U N;unfold zbe at P V
 generalize (zhE l).2=C at *
 generalize bstr (zhE l).1=S at *
 generalize zaJ 40 l=q at *
 clear T d B hs;go_enter Tryz.func18,Tryz.ntmps18
 go_wp2_with fail
 go_at_call 42;refine I.out.mono ?_;rintro e1 J⟨⟨r,cs,rfl,hR,Z⟩,y⟩;have M:SsL J J.heap.size l r:=zeM ⟨cs,hR,Z.weak1⟩;obtain⟨ra,rc,rfl,-,-⟩:=M.form;have HI:Hid (∀W,Below J.heap.size J W->SsL W W.heap.size l (.slice ra l.length rc)):=zh (fun W hb=>SsL.mono (M.low hb) hb.size);have H:=zh y;have G:=zh (U.out J _ y M);clear y M hR Z I U;go_wp2_with fail
 go_at_call 29;refine G.out.mono ?_;rintro e2 w2⟨rfl,j⟩;have L:=zh j;have g:=zh (H.out.trans (j.mono H.out.size));clear j G;go_wp2_with fail
 go_at_call 43;refine(N.out w2 g.out).mono ?_;rintro e3 w3⟨rfl,m⟩;have u:=zh (L.out.trans (m.mono L.out.size));have D:=zh (g.out.trans (m.mono g.out.size));have K:=zh (P.out w3 _ (HI.out w3 u.out));clear m N P;go_wp2_with fail
 go_at_call 30;refine K.out.mono ?_;rintro e4 w4⟨rfl,A⟩;have F:=zh (u.out.trans (A.mono u.out.size));have z:=zh (D.out.trans (A.mono D.out.size));clear A K;go_wp2_with fail
 go_at_call 44;refine(V.out w4 z.out).mono ?_;rintro e5 w5⟨rfl,i⟩;have R:=zh (F.out.trans (i.mono F.out.size));have f:=zh (z.out.trans (i.mono z.out.size));have O:=zh (Y.out w5 _ f.out (HI.out w5 R.out));clear i V Y;go_wp2_with fail
 go_at_call 32;refine O.out.mono ?_;rintro e6 w6⟨rfl,E⟩;have X:=zh (f.out.trans (E.mono f.out.size));clear E;go_wp2_with fail
 exact yE (v:=.bool true) (by simp[results,Tryz.results18,go_sem]) rfl ⟨rfl,X.out⟩
end Go.Proofs.YtoaojdobjinhfaaGreatDoor
