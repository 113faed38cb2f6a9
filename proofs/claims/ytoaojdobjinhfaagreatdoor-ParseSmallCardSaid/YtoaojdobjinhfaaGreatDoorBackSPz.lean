/- The tokens of statements that can be written are read back to them. Plain mathematics. -/
import Derived.Test.YtoaojdobjinhfaaGreatDoorGlobPz
import Derived.Test.YtoaojdobjinhfaaGreatDoorQRightPz
set_option linter.unusedSimpArgs false
set_option linter.unusedVariables false
namespace Go.Proofs.YtoaojdobjinhfaaGreatDoor
def opT : St -> Int | .mk op _ _ _ _ _ => op
inductive ShpT : Nat -> St -> Prop
  | letS {d : Nat} {name : List UInt8} {e : Ex} (h : zaP name = true) (he : Shp 40 e) : ShpT (d + 1) (.mk 1 0 name [e] [] [])
  | setS {d : Nat} {name : List UInt8} {e : Ex} (h : zaP name = true) (he : Shp 40 e) : ShpT (d + 1) (.mk 2 0 name [e] [] [])
  | putS {d : Nat} {n : Int} {e e' : Ex} (h0 : 1 <= n) (h1 : n <= 10) (he : Shp 40 e) (he' : Shp 40 e') : ShpT (d + 1) (.mk 3 n [] [e, e'] [] [])
  | stopS {d : Nat} {op : Int} (h : op = 6 ∨ op = 7) : ShpT (d + 1) (.mk op 0 [] [] [] [])
  | whileS {d : Nat} {e : Ex} {body : List St} (he : Shp 40 e) (hb : ∀ s ∈ body, ShpT d s) : ShpT (d + 1) (.mk 5 0 [] [e] body [])
  | ifS {d : Nat} {e : Ex} {body els : List St} (he : Shp 40 e) (hb : ∀ s ∈ body, ShpT d s) (hl : ∀ s ∈ els, ShpT d s) : ShpT (d + 1) (.mk 4 0 [] [e] body els)
theorem zl4{l:List Ex}(h:okEs l):∀x∈l,okE x:=by
 induction l with
 | nil=>intro x d;cases d
 | cons y r ih =>
  intro x d;rcases List.mem_cons.1 d with rfl|d
  ·exact h.1
  ·exact ih h.2 x d
theorem zl5{l:List St}(h:okSs l):∀x∈l,okS x:=by
 induction l with
 | nil=>intro x d;cases d
 | cons y r ih =>
  intro x d;rcases List.mem_cons.1 d with rfl|d
  ·exact h.1
  ·exact ih h.2 x d
theorem zk1:∀(d:Nat) (l:List St),zaJ d l=true->okSs l->∀s∈l,ShpT d s:=by
 intro d
 induction d with
 | zero=>intro l h _ s m;cases l with
  | nil=>cases m
  | cons x r=>simp[zaJ] at h
 | succ d ih =>
  intro l h u s m;rw[zfn,List.all_eq_true] at h;have i:=h s m;have z:=zl5 u s m;obtain⟨op,n,name,es,body,els⟩:=s;simp only[zh2,yC] at i;obtain⟨⟨E,A⟩,f,y⟩:=i;obtain⟨-,-,-,F,B,H⟩:=z;have v:=ih body E B;have D:=ih els A H;rw[List.all_eq_true] at y;have j:∀x∈es,Shp 40 x:=fun x hx=>zfB 40 x (y x hx) (zl4 F x hx)
  have C:1<=op/\op<=7:=by
   unfold zbA at f;rw[yC,yQ] at f;exact f.1
  have c:(1<=op/\op<=2)∨op=3∨op=4∨op=5∨(6<=op/\op<=7):=by omega
  rcases c with⟨i,q⟩|h|h|h|⟨i,q⟩
  ·rw[zee _ _ _ _ _ _ i q] at f;simp only[yC,yQ] at f;obtain⟨a1,a2,rfl,g,a5⟩:=f;obtain⟨e,rfl⟩:=len1 a1;rw[len0 g,len0 a5];rcases(show op=1∨op=2 by omega) with rfl|rfl
   ·exact .letS a2 (j e (by simp))
   ·exact .setS a2 (j e (by simp))
  ·rw[zfo _ _ _ _ _ _ h] at f;simp only[yC,yQ] at f;obtain⟨a1,rfl,w,g,a5⟩:=f;obtain⟨e,G,rfl⟩:=len2 a1;rw[len0 g,len0 a5,h];exact .putS w.1 w.2 (j e (by simp)) (j G (by simp))
  ·rw[zfp _ _ _ _ _ _ h] at f;simp only[yC,yQ] at f;obtain⟨a1,rfl,rfl,-⟩:=f;obtain⟨e,rfl⟩:=len1 a1;rw[h];exact .ifS (j e (by simp)) v D
  ·rw[zfq _ _ _ _ _ _ h] at f;simp only[yC,yQ] at f;obtain⟨a1,rfl,rfl,g⟩:=f;obtain⟨e,rfl⟩:=len1 a1;rw[len0 g,h];exact .whileS (j e (by simp)) v
  ·rw[zef _ _ _ _ _ _ i q] at f;simp only[yC,yQ] at f;obtain⟨a1,rfl,rfl,g,a5⟩:=f;rw[len0 a1,len0 g,len0 a5];exact .stopS (by omega)
def Begins (w : List UInt8) : Prop := za4 w = true /\ w ≠ [101, 108, 115, 101]
theorem Begins.not{w:List UInt8}(h:Begins w):w≠[125]:=by
 rintro rfl;exact absurd h.1 (by decide +kernel)
def Lx (s : List UInt8) (ks : List BK) (r : List UInt8) : Prop := ∀ l c, ∃ us l' c', us.map Tok.bare = ks /\ lexF (s ++ r) l c = (lexF r l' c').pre us
theorem LexR.pre_pre(a b:List Tok)(r:LexR):(r.pre b).pre a=r.pre (a++b):=by cases r <;> simp[LexR.pre]
theorem Lx.nil(r:List UInt8):Lx [] [] r:=fun l c=>⟨[],l,c,rfl,by rw[LexR.pre_nil];rfl⟩
theorem Lx.app{s t r:List UInt8}{ks kt:List BK}(h:Lx s ks (t++r))(d:Lx t kt r):Lx (s++t) (ks++kt) r:=by
 intro l c;obtain⟨u,l1,m,j,i⟩:=h l c;obtain⟨vs,l2,q,g,f⟩:=d l1 m;exact⟨u++vs,l2,q,by rw[List.map_append,j,g],by rw[List.append_assoc,i,f,LexR.pre_pre]⟩
theorem zhY(t:Tok)(r:LexR):r.cons t=r.pre [t]:=by cases r <;> rfl
theorem Lx.tok{t:Tok}(ht:TokOk t){r:List UInt8}(d:Ends t r):Lx t.text [t.bare] r:=
 fun l c=>⟨[t.moved l c],l,c+t.text.length,rfl,by rw[zlF ht d,zhY]⟩
theorem Lx.blank{b:UInt8}(d:b=32∨b=9∨b=10)(r:List UInt8):Lx [b] [] r:=by
 intro l c;rcases d with rfl|rfl|rfl
 ·exact⟨[],l,c+1,rfl,by rw[LexR.pre_nil];exact zgc r l c⟩
 ·exact⟨[],l,c+1,rfl,by rw[LexR.pre_nil,zbY,show zam ([9]++r) false l c=zam r false l (c+1) from zdG (.inr rfl),<-zbY]⟩
 ·exact⟨[],l+1,1,rfl,by rw[LexR.pre_nil,zbY,show zam ([10]++r) false l c=zam r false (l+1) 1 from zdF rfl,<-zbY]⟩
theorem Lx.blanks{s:List UInt8}(d:∀b∈s,b=32∨b=9∨b=10)(r:List UInt8):Lx s [] r:=by
 induction s with
 | nil=>exact .nil r
 | cons b s ih=>exact Lx.app (s:=[b]) (ks:=[]) (.blank (d b (by simp)) _) (ih fun x hx=>d x (List.mem_cons_of_mem _ hx))
def zeP (r : List UInt8) : Prop := r.head?.all (fun b => !zaf b) = true
theorem Lx.word{w r:List UInt8}(d:za4 w=true)(f:zeP r):Lx w [wK w] r:=by
 cases w with
 | nil=>cases d
 | cons b t =>
  unfold za4 at d;simp only[yC,yQ] at d;exact Lx.tok (t:=⟨1,b::t,0,0,0⟩) (.word d.1.2 (by simp[zcC d.1.2,d.2]) d.1.1) ⟨fun _=>f,fun h=>by cases h⟩
theorem zfm{n:Nat}(j:n<=9223372036854775807):∃b t,Lib.decDigits n=b::t/\zaG b=true/\zaH b=false/\(b::t).all zaf=true:=by
 obtain⟨-,-,-,q,i⟩:=zdW n j
 cases he:Lib.decDigits n with
 | nil=>exact absurd he q
 | cons b t =>
  rw[he] at i;have g:zaG b=true:=i b (by simp);have f:=(zdW n j).1;rw[he] at f;refine⟨b,t,rfl,g,?_,?_⟩
  ·rw[zb1] at g
   cases hl:zaH b with
   | false=>rfl
   | true =>
    unfold zaH zaV at hl;simp only[Bool.or_eq_true,yC,yQ,beq_iff_eq] at hl;omega
  ·rw [List.all_eq_true]
   have:∀(l:List UInt8) (a m:Int),zaI l a=some m->∀x∈l,zaf x=true:=by
    intro l
    induction l with
    | nil=>intro a m _ x d;cases d
    | cons y l ih =>
     intro a m h x d;rw[zaI] at h;split at h
     ·cases h
     ·rename_i hd
      split at h
      ·cases h
      ·rcases List.mem_cons.1 d with rfl|d
       ·exact zcZ (by simpa using hd)
       ·exact ih _ _ h x d
   exact this _ _ _ f
theorem Lx.num{n:Int}{r:List UInt8}(q:0<=n)(m:n<=9223372036854775807)(j:zeP r):Lx (Lib.decDigits n.toNat) [nK n] r:=by
 have f:=zf8 n.toNat (by omega);obtain⟨b,t,d,g,l,i⟩:=zfm (n:=n.toNat) (by omega);have e:((n.toNat:Nat):Int)=n:=by omega
 rw[e,d] at f;have:=Lx.tok (t:=⟨2,b::t,n,0,0⟩) (.number l g i f) (r:=r) ⟨fun _=>j,fun h=>by cases h⟩;unfold nK;rw[d];exact this
def zf3 (a : UInt8) : Bool := !decide (a.toNat = 61 ∨ a.toNat = 33 ∨ a.toNat = 60 ∨ a.toNat = 62 ∨ a.toNat = 38 ∨ a.toNat = 124)
theorem Lx.sign{a:UInt8}(r:List UInt8)(h:zaH a=false)(f:zaG a=false)(g:zag [a]=1)(d:zf3 a=true):Lx [a] [sK [a]] r:=by
 refine Lx.tok (t:=⟨3,[a],0,0,0⟩) (.sign h f g) ⟨fun h=>absurd rfl h,fun _ x b r' hx _ hm=>?_⟩;cases hx;unfold zf3 at d;simp only[Bool.not_eq_true',decide_eq_false_iff_not] at d;simp only[zbB,List.mem_cons,Prod.mk.injEq,List.not_mem_nil,or_false] at hm;omega
theorem Lx.stop{b:UInt8}{t r:List UInt8}(h:zaH b=false)(d:zaG b=false)(f:zag (b::t)=(b::t).length)(g:zct r=true):Lx (b::t) [sK (b::t)] r:=by
 intro l c;exact⟨[⟨3,b::t,0,l,c⟩],l,c+(b::t).length,rfl,by rw[<-zhY];exact zfG (t:=⟨3,b::t,0,0,0⟩) (.sign h d f) g l c⟩
theorem zcq(n:Int):zab (.mk 1 n [] [])=Lib.decDigits n.toNat:=rfl
theorem zcr(s:List UInt8):zab (.mk 2 0 s [])=s:=rfl
theorem zdu(n:Int)(a:Ex):zab (.mk 3 n [] [a])=kindWords.getD (n-1).toNat []++[91]++zab a++[93]:=by
 simp only[zab,zbQ];rfl
theorem zep:zab (.mk 4 0 [] [])=[116,105,99,107]:=rfl
theorem zeq:zab (.mk 5 0 [] [])=[115,101,108,102]:=rfl
theorem zdv(a:Ex):zab (.mk 6 0 [] [a])=[114,97,110,100]++[40]++zab a++[41]:=by simp only[zab,zbQ];rfl
theorem zcN(a:Ex):zab (.mk 9 0 [] [a])=[97,98,115]++[40]++zab a++[41]:=by simp only[zab,zbQ];rfl
theorem zcs(a:Ex):zab (.mk 7 0 [] [a])=[45]++zaN (zat a,zab a) 6:=by simp only[zab,zbQ];rfl
theorem zdm(a:Ex):zab (.mk 8 0 [] [a])=[33]++zaN (zat a,zab a) 6:=by simp only[zab,zbQ];rfl
theorem zdT(a b:Ex):zab (.mk 23 0 [] [a,b])=[109,105,110]++[40]++zab a++[44,32]++zab b++[41]:=by simp only[zab,zbQ];rfl
theorem zdU(a b:Ex):zab (.mk 24 0 [] [a,b])=[109,97,120]++[40]++zab a++[44,32]++zab b++[41]:=by simp only[zab,zbQ];rfl
theorem zb0{op:Int}(d:10<=op)(f:op<=22)(a b:Ex):zab (.mk op 0 [] [a,b])=zaN (zat a,zab a) (zby (zar op))++[32]++zaO op++[32]++zaN (zat b,zab b) (zar op+1):=by
 have:=zdE d f;simp only[zab,zbQ];unfold zir;rw[yP (by omega)];rfl
def LxE (x : Ex) : Prop := (∀ r, zct r = true -> Lx (zab x) (zae x) r) /\ ∃ b t, zab x = b :: t /\ b.toNat ≠ 61
theorem LxE.part{x:Ex}(h:LxE x)(d:Nat):(∀r,zct r=true->Lx (zaN (zat x,zab x) d) (zbE (zat x,zae x) d) r)/\∃b t,zaN (zat x,zab x) d=b::t/\b.toNat≠61:=by
 unfold zaN zbE;by_cases f:zat x<d
 ·simp only[yP f];refine⟨fun r hr=>?_,⟨40,_,rfl,by decide⟩⟩;have:=Lx.app (Lx.app (Lx.sign (a:=40) (zab x++([41]++r)) (by decide) (by decide) (by decide) (by decide)) (h.1 ([41]++r) rfl)) (Lx.sign (a:=41) r (by decide) (by decide) (by decide) (by decide));exact this
 ·simp only[yN f];exact h
def Tabs (t : List UInt8) : Prop := ∀ b ∈ t, b = 9
theorem Tabs.more{t:List UInt8}(h:Tabs t):Tabs (t++[9]):=fun b hb=>by
 rcases List.mem_append.1 hb with hb|hb
 ·exact h b hb
 ·simpa using hb
def zaZ (tabs : List UInt8) (e : Ex) (body : List St) : List UInt8 := [40] ++ zab e ++ [41, 32, 123, 10] ++ zaM (tabs ++ [9]) body ++ tabs ++ [125]
theorem zju(tabs name:List UInt8)(e:Ex):oneW tabs (.mk 1 0 name [e] [] [])=[108,101,116,32]++name++[32,61,32]++zab e++[59]:=by rw[oneW];rfl
theorem zjv(tabs name:List UInt8)(e:Ex):oneW tabs (.mk 2 0 name [e] [] [])=name++[32,61,32]++zab e++[59]:=by rw[oneW];rfl
theorem zjw(tabs:List UInt8)(n:Int)(e d:Ex):oneW tabs (.mk 3 n [] [e,d] [] [])=kindWords.getD (n-1).toNat []++[91]++zab e++[93,32,61,32]++zab d++[59]:=by rw[oneW];rfl
theorem zhZ(tabs:List UInt8):oneW tabs (.mk 6 0 [] [] [] [])=[115,116,111,112,59]:=by rw[oneW];rfl
theorem zh0(tabs:List UInt8):oneW tabs (.mk 7 0 [] [] [] [])=[102,97,105,108,59]:=by rw[oneW];rfl
theorem zgX(tabs:List UInt8)(e:Ex)(body:List St):oneW tabs (.mk 5 0 [] [e] body [])=[119,104,105,108,101,32]++zaZ tabs e body:=by rw[oneW];rfl
theorem zjx(tabs:List UInt8)(e:Ex)(body:List St):oneW tabs (.mk 4 0 [] [e] body [])=[105,102,32]++zaZ tabs e body:=by rw[oneW];rfl
theorem zjy(tabs:List UInt8)(e:Ex)(body:List St)(x:St)(d:opT x=4):oneW tabs (.mk 4 0 [] [e] body [x])=[105,102,32]++zaZ tabs e body++[32,101,108,115,101,32]++oneW tabs x:=by
 rw[oneW];have:zdM [x]=true:=by obtain⟨op,_,_,_,_,_⟩:=x;exact decide_eq_true d
 simp only[this,if_true];rfl
theorem zgG(tabs:List UInt8)(e:Ex)(body:List St)(x:St)(r:List St)(d:zdM (x::r)=false):oneW tabs (.mk 4 0 [] [e] body (x::r))=[105,102,32]++zaZ tabs e body++[32,101,108,115,101,32,123,10]++zaM (tabs++[9]) (x::r)++tabs++[125]:=by
 rw[oneW];simp only[d];rfl
theorem zfe{s:List UInt8}{ks:List BK}(h:Lx s ks []):∃d l c,lexF s 1 1=.ok (d++[endT l c])/\d.map Tok.bare=ks:=by
 obtain⟨d,l,c,e,f⟩:=h 1 1;rw[List.append_nil,zda] at f;exact⟨d,l,c,f,e⟩
/-! expressions -/
inductive ParX where
  | ok (x : Ex)
  | err (line col code : Int)
def zf4 (l : List Tok) : PR Ex := (zaA l 0 0 1).andThen fun x j => if (zaa l j).kind = 4 then .ok x j else .err j 120
def zbT (src : List UInt8) : ParX :=
  match lexS src with
  | .err a b c => .err a b c
  | .ok l => match zf4 l with
    | .ok x _ => .ok x
    | .err i c => .err (zaa l i).line (zaa l i).col c
theorem zdw{l:List Tok}{i:Nat}(h:(zaa l i).kind=4):zaj l i=0:=by
 unfold zaj za3;rw[h];rfl
end Go.Proofs.YtoaojdobjinhfaaGreatDoor
