/- Lexing by places: one step at a place of the source. Plain mathematics. -/
import Derived.Test.YtoaojdobjinhfaaGreatDoorPPlaceW
import Derived.Test.YtoaojdobjinhfaaGreatDoorPosMC
set_option linter.unusedSimpArgs false
set_option linter.unusedVariables false
namespace Go.Proofs.YtoaojdobjinhfaaGreatDoor
open Go.RowKit

theorem skip_any:∀ (bs:List UInt8) (cm:Bool) (l c l' c':Int),(zam bs cm l c).1=(zam bs cm l' c').1:=by
 intro bs
 induction bs with
 | nil=>intro cm l c l' c';rfl
 | cons b r ih =>
  intro cm l c l' c';rw [zam,zam];split
  ·exact ih _ _ _ _ _
  ·split
   ·exact ih _ _ _ _ _
   ·split
    ·exact ih _ _ _ _ _
    ·split
     ·exact ih _ _ _ _ _
     ·rfl
def skN (bs : List UInt8) : Nat := bs.length - (zam bs false 1 1).1.length
theorem skN_le (bs:List UInt8):skN bs≤bs.length:=Nat.sub_le _ _
theorem skip_skN (bs:List UInt8) (l c:Int):zam bs false l c=(bs.drop (skN bs),posS (bs.take (skN bs)) l c):=by
 obtain ⟨n,hn,h1,h2⟩:=zle bs false l c;have h3:(zam bs false 1 1).1=bs.drop n:=by rw [← h1];exact skip_any _ _ _ _ _ _
 have e:skN bs=n:=by
  unfold skN;rw [h3,List.length_drop];omega
 rw [e,← h1,← h2]
theorem plS_add (s:List UInt8) (a n:Nat):plS s (a+n)=posS ((s.drop a).take n) (plS s a).1 (plS s a).2:=by
 unfold plS;rw [List.take_add,ziU]
theorem posS_flatM:∀ (bs:List UInt8) (l c:Int),(∀ b ∈ bs,b.toNat≠10)→posS bs l c=(l,c+bs.length):=by
 intro bs
 induction bs with
 | nil=>intro l c _;simp [posS]
 | cons b r ih =>
  intro l c h;rw [posS,if_neg (h b (by simp)),ih l (c+1) (fun x hx=>h x (by simp [hx]))];simp only [List.length_cons];congr 1
  omega
theorem part_flat {bs:List UInt8} (h:bs.all zaf=true):∀ b ∈ bs,b.toNat≠10:=fun b hb e=>by
 have:=List.all_eq_true.1 h b hb;simp only [zaf,zaH,zaV,zaG,za9,Bool.or_eq_true,Bool.and_eq_true,decide_eq_true_eq,beq_iff_eq] at this;omega
theorem sign_flat {bs:List UInt8} (h:zag bs=bs.length):∀ b ∈ bs,b.toNat≠10:=by
 intro b hb e
 match bs,h,hb with
 | [],_,hb=>cases hb
 | [a],h,hb =>
  obtain rfl:b=a:=by simpa using hb
  simp only [zag,zbt] at h;rw [e] at h
  simp at h
 | [a,d],h,hb =>
  simp only [zag,List.length_cons,List.length_nil] at h;split at h
  ·rename_i h2
   simp only [zbB,List.mem_cons,Prod.mk.injEq,List.not_mem_nil,or_false] at h2;rcases List.mem_cons.1 hb with rfl | hb
   ·omega
   ·obtain rfl:b=d:=by simpa using hb
    omega
  ·split at h <;> simp at h
 | a :: d :: f :: r,h,_ =>
  have:=zh6 (a :: d :: f :: r);rw [h] at this;simp at this
theorem TokOk.flat {t:Tok} (h:TokOk t):∀ b ∈ t.text,b.toNat≠10:=by
 cases h with
 | word h1 h2 h3=>exact part_flat h2
 | number h0 h1 h2 h3=>exact part_flat h2
 | sign h0 h1 h2=>exact sign_flat h2
theorem lexT_ends {bs:List UInt8} {l c:Int} {t:Tok} {us:List Tok} (h:lexT bs l c=.ok (t :: us)) (hk:t.kind≠4) :
  (t.kind≠3→(bs.drop t.text.length).head?.all (fun b=>!zaf b)=true)∧(t.kind=3→∀ a b r,t.text=[a]→bs=a :: b :: r→¬ (a.toNat,b.toNat) ∈ zbB):=by
 have hcons:∀ {r:LexR} {x:Tok},r.cons x=.ok (t :: us)→t=x:=by
  intro r x h
  cases r with
  | ok m=>cases h;rfl
  | err a b c=>cases h
 cases bs with
 | nil=>rw [lexT_nil] at h;cases h;exact absurd rfl hk
 | cons b r =>
  have hT:lexT (b :: r) l c=zaK lexF (b :: r) l c:=rfl;rw [hT,zaK] at h;split at h
  ·split at h
   ·cases h
   ·have:=hcons h;subst this;exact ⟨fun _=>zg0 _,fun h=>by cases h⟩
  ·split at h
   ·split at h
    ·cases h
    ·have:=hcons h;subst this;exact ⟨fun _=>zg0 _,fun h=>by cases h⟩
   ·split at h
    ·cases h
    ·rename_i hs
     have:=hcons h;subst this;refine ⟨fun h=>absurd rfl h,fun _ a d r' ht hb hm=>?_⟩;cases hb;have e:zag (b :: d :: r')=2:=by simp only [zag];rw [if_pos hm]
     have ht':(b :: d :: r').take (zag (b :: d :: r'))=[b]:=ht;rw [e] at ht';cases ht'
theorem lex_step {s:List UInt8} {a:Nat} (ha:a≤s.length) {ts:List Tok} (h:lexF (s.drop a) (plS s a).1 (plS s a).2=.ok ts) :
  ∃ j,j=a+skN (s.drop a)∧j≤s.length∧((j=s.length∧ts=[endT (plS s j).1 (plS s j).2]) ∨
   ∃ t us,ts=t :: us∧TokOk t∧t.line=(plS s j).1∧t.col=(plS s j).2∧s.drop j=t.text++s.drop (j+t.text.length)∧j+t.text.length≤s.length ∧
    lexF (s.drop (j+t.text.length)) (plS s (j+t.text.length)).1 (plS s (j+t.text.length)).2=.ok us ∧
    (t.kind≠3→(s.drop (j+t.text.length)).head?.all (fun b=>!zaf b)=true)∧(t.kind=3→∀ x y r,t.text=[x]→s.drop j=x :: y :: r→¬ (x.toNat,y.toNat) ∈ zbB)):=by
 have hle:=skN_le (s.drop a);rw [List.length_drop] at hle;refine ⟨a+skN (s.drop a),rfl,by omega,?_⟩;rw [zbY,skip_skN] at h;simp only [] at h;rw [List.drop_drop,← plS_add] at h
 generalize hj:a+skN (s.drop a)=j at *
 have hj2:j≤s.length:=by omega
 have h0:=h;rcases zet (s.drop j) (plS s j).1 (plS s j).2 with ⟨h1,h2⟩ | ⟨code,_,h1,_⟩ | ⟨t,ht,h1,h2,h3,h4,h5⟩
 ·rw [h2] at h;cases h;have:=congrArg List.length h1;rw [List.length_drop] at this;exact .inl ⟨by simp at this;omega,rfl⟩
 ·rw [h1] at h;cases h
 ·refine .inr ?_;rw [h5,List.drop_drop] at h;rw [List.length_drop] at h4;rw [List.drop_drop] at h3
  have hp:plS s (j+t.text.length)=((plS s j).1,(plS s j).2+t.text.length):=by
   rw [plS_add,posS_flatM]
   ·congr 2
    rw [List.length_take,List.length_drop];omega
   ·intro b hb;rw [h3,List.take_left] at hb;exact ht.flat b hb
  cases hr:lexF (s.drop (j+t.text.length)) (plS s j).1 ((plS s j).2+t.text.length) with
  | err x y z=>rw [hr] at h;cases h
  | ok us =>
   rw [hr] at h;cases h;have he:=lexT_ends h0 ht.kind;rw [List.drop_drop] at he;exact ⟨t,us,rfl,ht,h1,h2,h3,by omega,by rw [hp];exact hr,he.1,he.2⟩
def Tok.down (d : Int) (t : Tok) : Tok := ⟨t.kind, t.text, t.n, t.line + d, t.col⟩
def LexR.down (d : Int) : LexR → LexR
  | .ok l => .ok (l.map (Tok.down d))
  | .err a b c => .err (a + d) b c
theorem LexR.down_cons (d:Int) (t:Tok) (r:LexR):(r.cons t).down d=(r.down d).cons (t.down d):=by cases r <;> rfl
theorem skip_down:∀ (bs:List UInt8) (cm:Bool) (l c d:Int),zam bs cm (l+d) c=((zam bs cm l c).1,(zam bs cm l c).2.1+d,(zam bs cm l c).2.2):=by
 intro bs
 induction bs with
 | nil=>intro cm l c d;rfl
 | cons b r ih =>
  intro cm l c d;rw [zam,zam];have e:l+d+1=l+1+d:=by omega
  split
  ·rw [e];exact ih _ _ _ _
  ·split
   ·exact ih _ _ _ _
   ·split
    ·exact ih _ _ _ _
    ·split
     ·exact ih _ _ _ _
     ·rfl
theorem lexTok_down {go:List UInt8→Int→Int→LexR} {xs:List UInt8} {l c d:Int} (h:∀ ys a b,ys.length < xs.length→go ys (a+d) b=(go ys a b).down d):zaK go xs (l+d) c=(zaK go xs l c).down d:=by
 cases xs with
 | nil=>rfl
 | cons b r =>
  simp only [zaK];split
  ·rename_i hl
   have:=zfh (r:=r) (zcC hl);split
   ·rfl
   ·rw [h _ _ _ (by simp only [List.length_drop,List.length_cons];omega),LexR.down_cons];rfl
  ·split
   ·rename_i hd
    have:=zfh (r:=r) (zcZ hd);split
    ·rfl
    ·rw [h _ _ _ (by simp only [List.length_drop,List.length_cons];omega),LexR.down_cons];rfl
   ·split
    ·rfl
    ·rw [h _ _ _ (by simp only [List.length_drop,List.length_cons];omega),LexR.down_cons];rfl
theorem lexF_down (d:Int):∀ (n:Nat) (bs:List UInt8),bs.length≤n→∀ (l c:Int),lexF bs (l+d) c=(lexF bs l c).down d:=by
 intro n
 induction n with
 | zero =>
  intro bs hb l c;obtain rfl:bs=[]:=List.eq_nil_of_length_eq_zero (by omega)
  rfl
 | succ n ih =>
  intro bs hb l c;rw [zbY,zbY bs,skip_down];have:=zc9 bs false l c;exact lexTok_down fun ys a b hy=>ih ys (by have h2:ys.length < (zam bs false l c).1.length:=hy;omega) a b
def nlN : List UInt8 → Nat
  | [] => 0
  | b :: r => (if b.toNat = 10 then 1 else 0) + nlN r
theorem nl_app:∀ (xs ys:List UInt8),nlN (xs++ys)=nlN xs+nlN ys:=by
 intro xs
 induction xs with
 | nil=>intro ys;simp [nlN]
 | cons b r ih=>intro ys;simp only [List.cons_append,nlN,ih];omega
theorem pos_nl:∀ (xs:List UInt8) (l c:Int),(posS xs l c).1=l+nlN xs:=by
 intro xs
 induction xs with
 | nil=>intro l c;simp [posS,nlN]
 | cons b r ih =>
  intro l c;simp only [posS,nlN];split
  ·rw [ih];omega
  ·rw [ih];omega
theorem nl_flat:∀ {xs:List UInt8},(∀ b ∈ xs,b.toNat≠10)→nlN xs=0:=by
 intro xs
 induction xs with
 | nil=>intro _;rfl
 | cons b r ih=>intro h;rw [nlN,if_neg (h b (by simp)),ih (fun x hx=>h x (by simp [hx]))]
theorem skip_line:∀ (s:List UInt8) (cm:Bool) (l c:Int) (t:List UInt8),
  (zam s cm l c).1=[]∧zam (s++10 :: t) cm l c=zam t false (l+nlN s+1) 1∨(zam s cm l c).1≠[]∧zam (s++10 :: t) cm l c=((zam s cm l c).1++10 :: t,(zam s cm l c).2):=by
 intro s
 induction s with
 | nil =>
  intro cm l c t;refine .inl ⟨rfl,?_⟩;rw [List.nil_append,zdF rfl]
  simp [nlN]
 | cons b r ih =>
  intro cm l c t;rw [List.cons_append,zam,zam,nlN];by_cases h10:b.toNat=10
  ·simp only [h10,if_true];have:=ih false (l+1) 1 t;rw [show l+1+(nlN r:Int)+1=l+((1+nlN r:Nat):Int)+1 from by omega] at this;exact this
  ·simp only [h10,if_false];rw [Nat.zero_add];by_cases hc:cm=true
   ·simp only [hc,if_true];exact ih _ _ _ _
   ·simp only [hc];by_cases hs:b.toNat=32∨b.toNat=9
    ·simp only [hs,if_true];exact ih _ _ _ _
    ·simp only [hs,if_false];by_cases h35:b.toNat=35
     ·simp only [h35,if_true];exact ih _ _ _ _
     ·simp only [h35,if_false];exact .inr ⟨by simp,rfl⟩
theorem run_line (x t:List UInt8):(x++10 :: t).takeWhile zaf=x.takeWhile zaf:=by
 induction x with
 | nil=>rfl
 | cons b r ih =>
  by_cases h:zaf b=true
  ·simp only [List.cons_append,List.takeWhile_cons,h,if_true,ih]
  ·simp only [List.cons_append,List.takeWhile_cons,h];rfl
theorem sign_line {x:List UInt8} (t:List UInt8) (hx:x≠[]):zag (x++10 :: t)=zag x:=by
 match x,hx with
 | [a],_ =>
  show zag (a :: 10 :: t)=zag [a];simp only [zag];rw [if_neg];intro h
  simp [zbB] at h
 | a :: b :: r,_=>rfl
theorem lexTok_line {go:List UInt8→Int→Int→LexR} {x:List UInt8} (hx:x≠[]) (t:List UInt8) (l c:Int) :
  zaK go (x++10 :: t) l c=zaK (fun ys a b=>go (ys++10 :: t) a b) x l c:=by
 cases x with
 | nil=>exact absurd rfl hx
 | cons b r =>
  have h1:(b :: (r++10 :: t)).takeWhile zaf=(b :: r).takeWhile zaf:=run_line (b :: r) t;have h2:zag (b :: (r++10 :: t))=zag (b :: r):=sign_line (x:=b :: r) t (by simp);have hw:((b :: r).takeWhile zaf).length≤(b :: r).length:=(List.takeWhile_prefix _).length_le;have hs:=zgI (b :: r)
  have e:∀ k,k≤(b :: r).length→(b :: (r++10 :: t)).drop k=(b :: r).drop k++10 :: t:=fun k hk=>by
   show ((b :: r)++10 :: t).drop k=_;rw [List.drop_append_of_le_length hk]
  have e2:∀ k,k≤(b :: r).length→(b :: (r++10 :: t)).take k=(b :: r).take k:=fun k hk=>by
   show ((b :: r)++10 :: t).take k=_;rw [List.take_append_of_le_length hk]
  rw [List.cons_append,zaK,zaK,h1,h2,e _ hw,e _ hs,e2 _ hs]
def glue (u : LexR) : LexR → LexR
  | .ok l => u.pre l.dropLast
  | .err a b c => .err a b c
theorem glue_cons {u:LexR} {r:LexR} (t:Tok) (hr:∀ l,r=.ok l→l≠[]):glue u (r.cons t)=(glue u r).cons t:=by
 cases r with
 | err a b c=>rfl
 | ok l =>
  have:=hr l rfl
  cases l with
  | nil=>exact absurd rfl this
  | cons x y=>cases u <;> rfl
theorem lexF_ne {bs:List UInt8} {l c:Int} {ts:List Tok} (h:lexF bs l c=.ok ts):ts≠[]:=by
 obtain ⟨us,l',c',rfl,-⟩:=zga _ bs (zr _) _ _ _ h;simp
theorem lexF_line (t:List UInt8):∀ (n:Nat) (s:List UInt8),s.length≤n→∀ (l c:Int),lexF (s++10 :: t) l c=glue (lexF t (l+nlN s+1) 1) (lexF s l c):=by
 intro n
 induction n with
 | zero =>
  intro s hs l c;obtain rfl:s=[]:=List.eq_nil_of_length_eq_zero (by omega);rw [zda,List.nil_append,zbY,zdF rfl,← zbY];simp only [glue,nlN,List.dropLast_singleton,LexR.pre_nil];congr 1
  omega
 | succ n ih =>
  intro s hs l c;rcases skip_line s false l c t with ⟨h1,h2⟩ | ⟨h1,h2⟩
  ·rw [zbY,h2,← zbY,zbY s,h1];show _=glue _ (LexR.ok _);simp only [glue,List.dropLast_singleton,LexR.pre_nil]
  ·obtain ⟨m,hm,e1,e2⟩:=zle s false l c;have hsl:=zc9 s false l c
   have hnl:l+nlN s=(zam s false l c).2.1+nlN (zam s false l c).1:=by
    rw [e2,pos_nl,e1];have:=nl_app (s.take m) (s.drop m);rw [List.take_append_drop] at this;rw [this];omega
   rw [zbY,h2,zbY s,hnl]
   generalize (zam s false l c).1=x at *
   generalize (zam s false l c).2.1=l' at *
   generalize (zam s false l c).2.2=c' at *
   have hT:∀ k,k≤x.length→1≤k→(∀ b ∈ x.take k,b.toNat≠10)→∀ b,lexF (x.drop k++10 :: t) l' b=glue (lexF t (l'+nlN x+1) 1) (lexF (x.drop k) l' b):=fun k hk hk1 hf b=>by
    rw [ih _ (by rw [List.length_drop];omega)];congr 2
    have:=nl_app (x.take k) (x.drop k);rw [List.take_append_drop,nl_flat hf] at this;rw [this];omega
   show zaK lexF (x++10 :: t) l' c'=glue _ (zaK lexF x l' c');rw [lexTok_line h1]
   cases x with
   | nil=>exact absurd rfl h1
   | cons b r =>
    have hw:((b :: r).takeWhile zaf).length≤(b :: r).length:=(List.takeWhile_prefix _).length_le;have hs0:=zgI (b :: r);simp only [zaK];split
    ·rename_i hl
     split
     ·rfl
     ·rw [glue_cons _ (fun l hl=>lexF_ne hl),hT _ hw (zfh (zcC hl)) (by rw [zfE];exact part_flat (zgH _))]
    ·split
     ·rename_i hd
      split
      ·rfl
      ·rw [glue_cons _ (fun l hl=>lexF_ne hl),hT _ hw (zfh (zcZ hd)) (by rw [zfE];exact part_flat (zgH _))]
     ·split
      ·rfl
      ·rename_i hs1
       have hst:=zlc _ hs1;rw [glue_cons _ (fun l hl=>lexF_ne hl),hT _ hs0 (by omega) (sign_flat (by rw [hst,List.length_take];omega))]
theorem skip_take:∀ (s:List UInt8) (cm:Bool) (l c:Int) (n:Nat),s.length - (zam s cm l c).1.length≤n→zam (s.take n) cm l c=((zam s cm l c).1.take (n - (s.length - (zam s cm l c).1.length)),(zam s cm l c).2):=by
 intro s
 induction s with
 | nil=>intro cm l c n _;simp [zam]
 | cons b r ih =>
  intro cm l c n hn
  have key:∀ cm' l' c',(∀ u,zam (b :: u) cm l c=zam u cm' l' c')→zam ((b :: r).take n) cm l c=((zam (b :: r) cm l c).1.take (n - ((b :: r).length - (zam (b :: r) cm l c).1.length)),(zam (b :: r) cm l c).2):=by
   intro cm' l' c' he;rw [he r] at hn ⊢;have hl:=zc9 r cm' l' c';simp only [List.length_cons] at hn ⊢
   cases n with
   | zero=>omega
   | succ n =>
    rw [List.take_succ_cons,he,ih cm' l' c' n (by omega)];congr 2
    omega
  by_cases h10:b.toNat=10
  ·exact key false (l+1) 1 (fun u=>zdF h10)
  ·cases cm with
   | true=>exact key true _ _ (fun u=>zfj h10)
   | false =>
    by_cases hs:b.toNat=32∨b.toNat=9
    ·exact key false _ _ (fun u=>zdG hs)
    ·by_cases h35:b.toNat=35
     ·exact key true _ _ (fun u=>zgK h35)
     ·have e:∀ u,zam (b :: u) false l c=(b :: u,l,c):=fun u=>zcu h10 (by omega) (by omega) h35
      rw [e r];simp only [Nat.sub_self,Nat.sub_zero]
      cases n with
      | zero=>rfl
      | succ n=>rw [List.take_succ_cons,e]
theorem lexTok_cases {bs:List UInt8} (hne:bs≠[]) (l c:Int) :
  (∃ code:Int,(code=110∨code=111∨code=112)∧∀ go,zaK go bs l c=.err l c code) ∨
  (∃ t:Tok,TokOk t∧t.line=l∧t.col=c∧bs=t.text++bs.drop t.text.length∧t.text.length≤bs.length∧Ends t (bs.drop t.text.length)∧∀ go,zaK go bs l c=(go (bs.drop t.text.length) l (c+t.text.length)).cons t):=by
 cases bs with
 | nil=>exact absurd rfl hne
 | cons b r =>
  have hlen:∀ n,n≤(b :: r).length→((b :: r).take n).length=n:=fun n h=>by rw [List.length_take];omega
  have hw:((b :: r).takeWhile zaf).length≤(b :: r).length:=(List.takeWhile_prefix _).length_le;by_cases hl:zaH b=true
  ·by_cases h24:24 < ((b :: r).takeWhile zaf).length
   ·exact .inl ⟨111,by simp,fun go=>by rw [zaK,if_pos hl,if_pos h24]⟩
   ·refine .inr ⟨⟨1,(b :: r).takeWhile zaf,0,l,c⟩,?_,rfl,rfl,?_,hw,⟨fun _=>zg0 _,fun h=>by cases h⟩,fun go=>by rw [zaK,if_pos hl,if_neg h24]⟩
    ·have ha:=zgH (b :: r);have hc:=zfF (r:=r) (zcC hl);rw [hc] at ha h24 ⊢;exact .word hl ha (by omega)
    ·show b :: r=(b :: r).takeWhile zaf++(b :: r).drop ((b :: r).takeWhile zaf).length;have:=List.take_append_drop ((b :: r).takeWhile zaf).length (b :: r);rw [zfE] at this;exact this.symm
  ·by_cases hd:zaG b=true
   ·cases hv:zaS ((b :: r).takeWhile zaf) with
    | none=>exact .inl ⟨112,by simp,fun go=>by rw [zaK,if_neg hl,if_pos hd,hv]⟩
    | some n =>
     refine .inr ⟨⟨2,(b :: r).takeWhile zaf,n,l,c⟩,?_,rfl,rfl,?_,hw,⟨fun _=>zg0 _,fun h=>by cases h⟩,fun go=>by rw [zaK,if_neg hl,if_pos hd,hv]⟩
     ·have ha:=zgH (b :: r);have hc:=zfF (r:=r) (zcZ hd);rw [hc] at ha hv ⊢;exact .number (by simpa using hl) hd ha hv
     ·show b :: r=(b :: r).takeWhile zaf++(b :: r).drop ((b :: r).takeWhile zaf).length;have:=List.take_append_drop ((b :: r).takeWhile zaf).length (b :: r);rw [zfE] at this;exact this.symm
   ·by_cases hs:zag (b :: r)=0
    ·exact .inl ⟨110,by simp,fun go=>by rw [zaK,if_neg hl,if_neg hd,if_pos hs]⟩
    ·have hs1:=zgI (b :: r);have hs2:=zlc (b :: r) hs;refine .inr ⟨⟨3,(b :: r).take (zag (b :: r)),0,l,c⟩,?_,rfl,rfl,?_,?_,⟨fun h=>absurd rfl h,fun _ a d r' ht hb hm=>?_⟩,fun go=>?_⟩
     ·obtain ⟨k,hk⟩:∃ k,zag (b :: r)=k+1:=⟨zag (b :: r) - 1,by omega⟩;rw [hk] at hs2 ⊢;rw [List.take_succ_cons] at hs2 ⊢;refine .sign (by simpa using hl) (by simpa using hd) ?_;rw [hs2,← List.take_succ_cons,hlen _ (by omega)]
     ·show b :: r=(b :: r).take (zag (b :: r))++(b :: r).drop ((b :: r).take (zag (b :: r))).length;rw [hlen _ hs1,List.take_append_drop]
     ·show ((b :: r).take (zag (b :: r))).length≤_;rw [hlen _ hs1];exact hs1
     ·have ht':(b :: r).take (zag (b :: r))=[a]:=ht;have hb':(b :: r).drop ((b :: r).take (zag (b :: r))).length=d :: r':=hb;rw [ht'] at hb';have hb2:r=d :: r':=hb';subst hb2
      have e:zag (b :: d :: r')=1:=by
       have:=congrArg List.length ht';rw [hlen _ hs1] at this;exact this
      rw [e] at ht';cases ht';have e2:zag (b :: d :: r')=2:=by simp only [zag];rw [if_pos hm]
      omega
     ·rw [zaK,if_neg hl,if_neg hd,if_neg hs];show _=(go ((b :: r).drop ((b :: r).take (zag (b :: r))).length) l (c+((b :: r).take (zag (b :: r))).length)).cons _;rw [hlen _ hs1]
theorem lexF_err:∀ (n:Nat) (bs:List UInt8),bs.length≤n→∀ (l c a b e:Int),lexF bs l c=.err a b e→∃ j,j < bs.length∧posS (bs.take j) l c=(a,b)∧∃ ts,lexF (bs.take j) l c=.ok ts:=by
 intro n
 induction n with
 | zero =>
  intro bs hb l c a b e h;obtain rfl:bs=[]:=List.eq_nil_of_length_eq_zero (by omega);rw [zda] at h
  cases h
 | succ n ih =>
  intro bs hb l c a b e h;rw [zbY] at h;obtain ⟨m,hm,e1,e2⟩:=zle bs false l c
  have hsk:∀ k,m≤k→zam (bs.take k) false l c=((bs.drop m).take (k - m),posS (bs.take m) l c):=fun k hk=>by
   have hl:bs.length - (zam bs false l c).1.length=m:=by rw [e1,List.length_drop];omega
   rw [skip_take bs false l c k (by omega),hl,e2,e1]
  rw [e1,e2] at h;have hne:bs.drop m≠[]:=fun h0=>by rw [h0] at h;cases h
  rcases lexTok_cases hne (posS (bs.take m) l c).1 (posS (bs.take m) l c).2 with ⟨code,hc,h1⟩ | ⟨t,ht,hl,hcl,h2,h3,hE,h1⟩
  ·rw [show lexT (bs.drop m) _ _=_ from h1 lexF] at h;cases h
   have hlt:m < bs.length:=by
    rcases Nat.lt_or_ge m bs.length with h | h
    ·exact h
    ·exact absurd (List.drop_eq_nil_of_le h) hne
   exact ⟨m,hlt,rfl,_,by rw [zbY,hsk m (zr _)];simp only [Nat.sub_self,List.take_zero];rfl⟩
  ·rw [show lexT (bs.drop m) _ _=_ from h1 lexF] at h;have ht1:1≤t.text.length:=List.length_pos_iff.2 ht.text;rw [List.length_drop] at h3;rw [List.drop_drop] at h2 h hE
   cases hr:lexF (bs.drop (m+t.text.length)) (posS (bs.take m) l c).1 ((posS (bs.take m) l c).2+t.text.length) with
   | ok us=>rw [hr] at h;cases h
   | err a' b' e' =>
    rw [hr] at h;cases h;obtain ⟨j,hj,hp,ts,hts⟩:=ih _ (by rw [List.length_drop];omega) _ _ _ _ _ hr;rw [List.length_drop] at hj
    have htake:(bs.drop m).take (t.text.length+j)=t.text++(bs.drop (m+t.text.length)).take j:=by
     rw [h2,List.take_length_add_append]
    refine ⟨m+(t.text.length+j),by omega,?_,?_⟩
    ·rw [List.take_add,ziU,htake,ziU,posS_flatM _ _ _ ht.flat];exact hp
    ·refine ⟨t :: ts,?_⟩;rw [zbY,hsk _ (by omega),Nat.add_sub_cancel_left,htake,zkp ht (hE.take j),hts]
     have:t.moved (posS (bs.take m) l c).1 (posS (bs.take m) l c).2=t:=by
      rw [← hl,← hcl];rfl
     rw [this];rfl
end Go.Proofs.YtoaojdobjinhfaaGreatDoor
