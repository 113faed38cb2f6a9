/- The tokens of statements that can be written are read back to them. Plain mathematics. -/
/- The text of a tree that can be written is lexed to its tokens, and parsed to the tree. Plain mathematics. -/
/- The text of a program that can be written is parsed to the program. Plain mathematics. -/
import Derived.Test.YtoaojdobjinhfaaGreatDoorBackMY
import Derived.Test.YtoaojdobjinhfaaGreatDoorPosMY
import Derived.Test.YtoaojdobjinhfaaGreatDoorGlobY
import Derived.Test.YtoaojdobjinhfaaGreatDoorJoinMY
set_option linter.unusedSimpArgs false
set_option linter.unusedVariables false
namespace Go.Proofs.YtoaojdobjinhfaaGreatDoor

mutual
def toksT : St → List BK
  | .mk op n name es body els =>
    let e0 := match es with | x :: _ => toksE x | [] => []
    let e1 := match es with | _ :: x :: _ => toksE x | _ => []
    if op = 1 then wK [108, 101, 116] :: wK name :: sK [61] :: (e0 ++ [sK [59]])
    else if op = 2 then wK name :: sK [61] :: (e0 ++ [sK [59]])
    else if op = 3 then wK (kindWords.getD (n - 1).toNat []) :: sK [91] :: (e0 ++ sK [93] :: sK [61] :: (e1 ++ [sK [59]]))
    else if op = 6 then [wK [115, 116, 111, 112], sK [59]]
    else if op = 7 then [wK [102, 97, 105, 108], sK [59]]
    else
      let block := sK [40] :: (e0 ++ sK [41] :: sK [123] :: (toksTs body ++ [sK [125]]))
      if op = 5 then wK [119, 104, 105, 108, 101] :: block
      else match els with
        | [] => wK [105, 102] :: block
        | x :: r => if elseIf (x :: r) = true then wK [105, 102] :: (block ++ wK [101, 108, 115, 101] :: toksT x)
          else wK [105, 102] :: (block ++ wK [101, 108, 115, 101] :: sK [123] :: (toksTs (x :: r) ++ [sK [125]]))
def toksTs : List St → List BK
  | [] => []
  | x :: r => toksT x ++ toksTs r
end
def opT : St → Int | .mk op _ _ _ _ _ => op
inductive ShpT : Nat → St → Prop
  | letS {d : Nat} {name : List UInt8} {e : Ex} (h : nameS name = true) (he : Shp 40 e) : ShpT (d + 1) (.mk 1 0 name [e] [] [])
  | setS {d : Nat} {name : List UInt8} {e : Ex} (h : nameS name = true) (he : Shp 40 e) : ShpT (d + 1) (.mk 2 0 name [e] [] [])
  | putS {d : Nat} {n : Int} {e e' : Ex} (h0 : 1 ≤ n) (h1 : n ≤ 10) (he : Shp 40 e) (he' : Shp 40 e') : ShpT (d + 1) (.mk 3 n [] [e, e'] [] [])
  | stopS {d : Nat} {op : Int} (h : op = 6 ∨ op = 7) : ShpT (d + 1) (.mk op 0 [] [] [] [])
  | whileS {d : Nat} {e : Ex} {body : List St} (he : Shp 40 e) (hb : ∀ s ∈ body, ShpT d s) : ShpT (d + 1) (.mk 5 0 [] [e] body [])
  | ifS {d : Nat} {e : Ex} {body els : List St} (he : Shp 40 e) (hb : ∀ s ∈ body, ShpT d s) (hl : ∀ s ∈ els, ShpT d s) : ShpT (d + 1) (.mk 4 0 [] [e] body els)
theorem okEs_mem {l:List Ex} (h:okEs l):∀ x ∈ l,okE x:=by
 induction l with
 | nil=>intro x hx;cases hx
 | cons y r ih =>
  intro x hx;rcases List.mem_cons.1 hx with rfl | hx
  ·exact h.1
  ·exact ih h.2 x hx
theorem okSs_mem {l:List St} (h:okSs l):∀ x ∈ l,okS x:=by
 induction l with
 | nil=>intro x hx;cases hx
 | cons y r ih =>
  intro x hx;rcases List.mem_cons.1 hx with rfl | hx
  ·exact h.1
  ·exact ih h.2 x hx
theorem shp_right:∀ (d:Nat) (l:List St),rightS d l=true→okSs l→∀ s ∈ l,ShpT d s:=by
 intro d
 induction d with
 | zero=>intro l h _ s hs;cases l with
  | nil=>cases hs
  | cons x r=>simp [rightS] at h
 | succ d ih =>
  intro l h hok s hs;rw [rightS_succ,List.all_eq_true] at h;have h1:=h s hs;have ho:=okSs_mem hok s hs;obtain ⟨op,n,name,es,body,els⟩:=s;simp only [right1,Bool.and_eq_true] at h1;obtain ⟨⟨hb,hl⟩,hh,he⟩:=h1;obtain ⟨-,-,-,oE,oB,oL⟩:=ho;have hB:=ih body hb oB;have hL:=ih els hl oL;rw [List.all_eq_true] at he;have hE:∀ x ∈ es,Shp 40 x:=fun x hx=>shp_fine 40 x (he x hx) (okEs_mem oE x hx)
  have hop:1≤op∧op≤7:=by
   unfold headT at hh;rw [Bool.and_eq_true,decide_eq_true_eq] at hh;exact hh.1
  have c:(1≤op∧op≤2)∨op=3∨op=4∨op=5∨(6≤op∧op≤7):=by omega
  rcases c with ⟨h1,h2⟩ | h | h | h | ⟨h1,h2⟩
  ·rw [headT_11000 _ _ _ _ _ _ h1 h2] at hh;simp only [Bool.and_eq_true,decide_eq_true_eq] at hh;obtain ⟨a1,a2,rfl,a4,a5⟩:=hh;obtain ⟨e,rfl⟩:=len1 a1;rw [len0 a4,len0 a5];rcases (show op=1∨op=2 by omega) with rfl | rfl
   ·exact .letS a2 (hE e (by simp))
   ·exact .setS a2 (hE e (by simp))
  ·rw [headT_20100 _ _ _ _ _ _ h] at hh;simp only [Bool.and_eq_true,decide_eq_true_eq] at hh;obtain ⟨a1,rfl,a3,a4,a5⟩:=hh;obtain ⟨e,e',rfl⟩:=len2 a1;rw [len0 a4,len0 a5,h];exact .putS a3.1 a3.2 (hE e (by simp)) (hE e' (by simp))
  ·rw [headT_10011 _ _ _ _ _ _ h] at hh;simp only [Bool.and_eq_true,decide_eq_true_eq] at hh;obtain ⟨a1,rfl,rfl,-⟩:=hh;obtain ⟨e,rfl⟩:=len1 a1;rw [h];exact .ifS (hE e (by simp)) hB hL
  ·rw [headT_10010 _ _ _ _ _ _ h] at hh;simp only [Bool.and_eq_true,decide_eq_true_eq] at hh;obtain ⟨a1,rfl,rfl,a4⟩:=hh;obtain ⟨e,rfl⟩:=len1 a1;rw [len0 a4,h];exact .whileS (hE e (by simp)) hB
  ·rw [headT_00000 _ _ _ _ _ _ h1 h2] at hh;simp only [Bool.and_eq_true,decide_eq_true_eq] at hh;obtain ⟨a1,rfl,rfl,a4,a5⟩:=hh;rw [len0 a1,len0 a4,len0 a5];exact .stopS (by omega)
theorem toks_let (name:List UInt8) (e:Ex):toksT (.mk 1 0 name [e] [] [])=wK [108,101,116] :: wK name :: sK [61] :: (toksE e++[sK [59]]):=by rw [toksT];rfl
theorem toks_set (name:List UInt8) (e:Ex):toksT (.mk 2 0 name [e] [] [])=wK name :: sK [61] :: (toksE e++[sK [59]]):=by rw [toksT];rfl
theorem toks_put (n:Int) (e e':Ex):toksT (.mk 3 n [] [e,e'] [] [])=wK (kindWords.getD (n - 1).toNat []) :: sK [91] :: (toksE e++sK [93] :: sK [61] :: (toksE e'++[sK [59]])):=by rw [toksT];rfl
theorem toks_stop:toksT (.mk 6 0 [] [] [] [])=[wK [115,116,111,112],sK [59]]:=by rw [toksT];rfl
theorem toks_fail:toksT (.mk 7 0 [] [] [] [])=[wK [102,97,105,108],sK [59]]:=by rw [toksT];rfl
def toksB (e : Ex) (body : List St) : List BK := sK [40] :: (toksE e ++ sK [41] :: sK [123] :: (toksTs body ++ [sK [125]]))
theorem toks_while (e:Ex) (body:List St):toksT (.mk 5 0 [] [e] body [])=wK [119,104,105,108,101] :: toksB e body:=by rw [toksT];rfl
theorem toks_if0 (e:Ex) (body:List St):toksT (.mk 4 0 [] [e] body [])=wK [105,102] :: toksB e body:=by rw [toksT];rfl
theorem toks_ifi (e:Ex) (body:List St) (x:St) (hx:opT x=4):toksT (.mk 4 0 [] [e] body [x])=wK [105,102] :: (toksB e body++wK [101,108,115,101] :: toksT x):=by
 rw [toksT];have:elseIf [x]=true:=by obtain ⟨op,_,_,_,_,_⟩:=x;exact decide_eq_true hx
 simp only [this,if_true];rfl
theorem toks_ife (e:Ex) (body:List St) (x:St) (r:List St) (hx:elseIf (x :: r)=false):toksT (.mk 4 0 [] [e] body (x :: r))=wK [105,102] :: (toksB e body++wK [101,108,115,101] :: sK [123] :: (toksTs (x :: r)++[sK [125]])):=by
 rw [toksT];simp only [hx];rfl
theorem exprT_zero {l:List Tok} {d:Nat} {x:Ex} (h:Back l d x) {i o:Nat} (hs:Seg l i (toksE x)) (h0:strongAt l (i+(toksE x).length)=0) (ho:o+2 * d≤200):exprT l i o 1=.ok x (i+(toksE x).length):=h.zero hs h0 ho (Nat.le_refl _)
theorem insideT_back {l:List Tok} {d:Nat} {x:Ex} (h:Back l d x) {i o:Nat} {a b:List UInt8} (hs:Seg l i (sK a :: (toksE x++[sK b]))) (hb:placeS b signWords 0=0) (ho:o+2 * d < 200):insideS l (exprT l) i o a b 1=.ok [x] (i+(toksE x).length+2):=by
 obtain ⟨h1,hlt⟩:=hs.at;obtain ⟨h2,h3⟩:=hs.tail.app;obtain ⟨h4,hlt4⟩:=h3.at;have e1:isS l i a=true:=by rw [is_sK h1];simp
 have e4:isS l (i+1+(toksE x).length) b=true:=by rw [is_sK h4];simp
 rw [inside_one e1 (by omega) (exprT_zero h h2 (zero_sK h4 hb) (by omega)) e4];congr 1
 omega
theorem value_back {l:List Tok} {d:Nat} {x:Ex} (h:Back l d x) {i o:Nat} (hs:Seg l i (sK [61] :: (toksE x++[sK [59]]))) (ho:o+2 * d≤200):valueT l i o=.ok x (i+(toksE x).length+2):=by
 obtain ⟨h1,hlt⟩:=hs.at;obtain ⟨h2,h3⟩:=hs.tail.app;obtain ⟨h4,hlt4⟩:=h3.at;unfold valueT;rw [is_sK h1,if_neg (by decide),exprT_zero h h2 (zero_sK h4 (by decide)) ho];simp only [PR.andThen];rw [is_sK h4,if_neg (by decide)];congr 1
 omega
def Begins (w : List UInt8) : Prop := wordS w = true ∧ w ≠ [101, 108, 115, 101]
theorem begins_kind {n:Int} (h0:1≤n) (h1:n≤10):Begins (kindWords.getD (n - 1).toNat []):=by
 refine ⟨(kind_word n h0 h1).2,?_⟩;obtain ⟨k,rfl⟩:∃ k:Fin 10,n=1+(k.val:Int):=⟨⟨(n - 1).toNat,by omega⟩,by show n=1+((n - 1).toNat:Int);omega⟩;revert k;decide
theorem begins_name {s:List UInt8} (h:nameS s=true):Begins s:=⟨(name_parts h).1,place_ne (name_parts h).2.2 (by decide)⟩
theorem Begins.not {w:List UInt8} (h:Begins w):w≠[125]:=by
 rintro rfl;exact absurd h.1 (by decide +kernel)
theorem toksT_head {d:Nat} {s:St} (h:ShpT d s):∃ w r,toksT s=wK w :: r∧Begins w∧(opT s=4→w=[105,102]):=by
 cases h with
 | letS h he=>exact ⟨_,_,toks_let _ _,⟨by decide +kernel,by decide⟩,fun h=>absurd h (by simp [opT])⟩
 | setS h he=>exact ⟨_,_,toks_set _ _,begins_name h,fun h=>absurd h (by simp [opT])⟩
 | putS h0 h1 he he'=>exact ⟨_,_,toks_put _ _ _,begins_kind h0 h1,fun h=>absurd h (by simp [opT])⟩
 | stopS h =>
  rcases h with rfl | rfl
  ·exact ⟨_,_,toks_stop,⟨by decide +kernel,by decide⟩,fun h=>absurd h (by simp [opT])⟩
  ·exact ⟨_,_,toks_fail,⟨by decide +kernel,by decide⟩,fun h=>absurd h (by simp [opT])⟩
 | whileS he hb=>exact ⟨_,_,toks_while _ _,⟨by decide +kernel,by decide⟩,fun h=>absurd h (by simp [opT])⟩
 | @ifS d e body els he hb hl =>
  have hi:Begins [105,102]:=⟨by decide +kernel,by decide⟩
  cases els with
  | nil=>exact ⟨_,_,toks_if0 _ _,hi,fun _=>rfl⟩
  | cons x r =>
   cases hx:elseIf (x :: r) with
   | false=>exact ⟨_,_,toks_ife _ _ _ _ hx,hi,fun _=>rfl⟩
   | true =>
    cases r with
    | nil =>
     obtain ⟨op,n',nm,es,bb,ll⟩:=x;have:op=4:=of_decide_eq_true hx
     exact ⟨_,_,toks_ifi _ _ _ this,hi,fun _=>rfl⟩
    | cons y r=>simp [elseIf] at hx
def elseW : List UInt8 := [101, 108, 115, 101]
def StB (l : List Tok) (d : Nat) (s : St) : Prop := ∀ (f i o : Nat), Seg l i (toksT s) → isS l (i + (toksT s).length) elseW = false → o + 2 * d + 82 ≤ 200 → l.length - i ≤ f → stmtS l f i o = .ok s (i + (toksT s).length)
def BrB (l : List Tok) (d : Nat) (s : St) : Prop := ∀ (f g i o : Nat), Seg l i (toksT s) → isS l (i + (toksT s).length) elseW = false → o + 2 * d + 82 ≤ 200 → l.length - i ≤ f + 1 → l.length - i ≤ g → branchS l (stmtS l f) g i o = .ok s (i + (toksT s).length)
theorem next_not {l:List Tok} {i:Nat} {d:Nat} {r:List St} (hr:∀ s ∈ r,ShpT d s) (h:Seg l i (toksTs r++[sK [125]])):isS l i elseW=false:=by
 cases r with
 | nil =>
  obtain ⟨h1,-⟩:=Seg.at (r:=[]) h;rw [is_sK h1]
  decide
 | cons x r =>
  obtain ⟨w,t,ht,hb,-⟩:=toksT_head (hr x (by simp));rw [toksTs,ht] at h;obtain ⟨h1,-⟩:=Seg.at (r:=t++toksTs r++[sK [125]]) h;rw [is_wK h1];exact decide_eq_false hb.2
theorem stmts_back {l:List Tok} {d f:Nat}:∀ (body xs:List St) (i o F:Nat),(∀ s ∈ body,ShpT d s)→(∀ s ∈ body,StB l d s)→Seg l i (toksTs body++[sK [125]])→l.length+1 - i≤F→l.length - i≤f→o+1+2 * d+82≤200 →
  stmtsS l (stmtS l f) o F xs i=.ok (xs++body) (i+(toksTs body).length+1):=by
 intro body
 induction body with
 | nil =>
  intro xs i o F hb hB hs hF hf ho;obtain ⟨h1,hlt⟩:=Seg.at (r:=[]) hs;obtain ⟨F',rfl⟩:∃ F',F=F'+1:=⟨F - 1,by omega⟩;rw [stmtsS,is_sK h1,if_pos (by decide),List.append_nil]
  rfl
 | cons x r ih =>
  intro xs i o F hb hB hs hF hf ho;rw [toksTs,List.append_assoc] at hs;obtain ⟨h1,h2⟩:=hs.app;obtain ⟨w,t,ht,hw,-⟩:=toksT_head (hb x (by simp));have h3:=h1;rw [ht] at h3;obtain ⟨k1,hlt⟩:=h3.at;obtain ⟨F',rfl⟩:∃ F',F=F'+1:=⟨F - 1,by omega⟩;have hr:∀ s ∈ r,ShpT d s:=fun s hs=>hb s (List.mem_cons_of_mem _ hs)
  rw [stmtsS,is_wK k1,if_neg (by simpa using hw.not),hB x (by simp) f i (o+1) h1 (next_not hr h2) (by omega) hf];show stmtsS l (stmtS l f) o F' (xs++[x]) _=_;have hpos:1≤(toksT x).length:=by rw [ht];simp
  rw [ih (xs++[x]) _ o F' hr (fun s hs=>hB s (List.mem_cons_of_mem _ hs)) h2 (by omega) (by omega) ho,toksTs,List.length_append,List.append_assoc];congr 1
  omega
theorem block_back {l:List Tok} {d f:Nat} {body:List St} {i o:Nat} (hb:∀ s ∈ body,ShpT d s) (hB:∀ s ∈ body,StB l d s) (hs:Seg l i (sK [123] :: (toksTs body++[sK [125]]))) (hf:l.length - i≤f+1) (ho:o+1+2 * d+82≤200):blockS l (stmtS l f) i o=.ok body (i+(toksTs body).length+2):=by
 obtain ⟨h1,hlt⟩:=hs.at;unfold blockS;rw [enter_ok (by rw [is_sK h1];decide) (by omega)];show stmtsS l (stmtS l f) o (l.length+1 - (i+1)) [] (i+1)=_;rw [stmts_back body [] (i+1) o _ hb hB hs.tail (Nat.le_refl _) (by omega) ho];rw [List.nil_append];congr 1
 omega
theorem head_back {l:List Tok} {d f:Nat} {e:Ex} {body:List St} {i o:Nat} (he:Shp 40 e) (hb:∀ s ∈ body,ShpT d s) (hB:∀ s ∈ body,StB l d s) (hs:Seg l i (toksB e body)) (hf:l.length - i≤f) (ho:o+1+2 * d+82≤200) :
  insideS l (exprT l) i o [40] [41] 1=.ok [e] (i+(toksE e).length+2)∧blockS l (stmtS l f) (i+(toksE e).length+2) o=.ok body (i+(toksB e body).length):=by
 have h1:Seg l i ((sK [40] :: (toksE e++[sK [41]]))++(sK [123] :: (toksTs body++[sK [125]]))):=by
  have:(sK [40] :: (toksE e++[sK [41]]))++(sK [123] :: (toksTs body++[sK [125]]))=toksB e body:=by simp [toksB]
  rw [this];exact hs
 obtain ⟨g1,g2⟩:=h1.app;have el:i+(sK [40] :: (toksE e++[sK [41]])).length=i+(toksE e).length+2:=by simp only [List.length_cons,List.length_append,List.length_nil];omega
 rw [el] at g2;refine ⟨insideT_back (back_main l he) g1 (by decide) (by omega),?_⟩;rw [block_back hb hB g2 (by omega) ho];congr 1
 simp only [toksB,List.length_cons,List.length_append,List.length_nil];omega
theorem stmt_back (l:List Tok):∀ {d:Nat} {s:St},ShpT d s→StB l d s∧(opT s=4→BrB l d s):=by
 intro d s h
 induction h with
 | @letS d name e h he =>
  refine ⟨fun f i o hs hel ho hf=>?_,fun h=>absurd h (by simp [opT])⟩;rw [toks_let] at hs ⊢;obtain ⟨k1,hlt⟩:=hs.at;obtain ⟨k2,hlt2⟩:=hs.tail.at;obtain ⟨g,rfl⟩:∃ g,f=g+1:=⟨f - 1,by omega⟩;obtain ⟨a1,a2,-⟩:=bare_kind k1;obtain ⟨b1,b2,-⟩:=bare_kind k2;rw [stmtS,a1,a2,b1,b2,if_neg (by decide),if_neg (by decide +kernel),if_neg (by decide),if_neg (by decide),if_pos rfl,if_neg (by rw [h];decide),value_back (back_main l he) hs.tail.tail (by omega)];show PR.ok _ _=_;congr 1
  simp only [List.length_cons,List.length_append,List.length_nil]
  omega
 | @setS d name e h he =>
  refine ⟨fun f i o hs hel ho hf=>?_,fun h=>absurd h (by simp [opT])⟩;rw [toks_set] at hs ⊢;obtain ⟨k1,hlt⟩:=hs.at;obtain ⟨g,rfl⟩:∃ g,f=g+1:=⟨f - 1,by omega⟩;obtain ⟨a1,a2,-⟩:=bare_kind k1;obtain ⟨n1,n2,n3⟩:=name_parts h;have p1:=place_ne n3 (u:=[115,116,111,112]) (by decide);have p2:=place_ne n3 (u:=[102,97,105,108]) (by decide);have p3:=place_ne n3 (u:=[105,102]) (by decide);have p4:=place_ne n3 (u:=[119,104,105,108,101]) (by decide);have p5:=place_ne n3 (u:=[108,101,116]) (by decide);rw [stmtS,a1,a2,if_neg (by decide),if_neg (by omega),if_neg (not_or.2 ⟨p1,p2⟩),if_neg (not_or.2 ⟨p3,p4⟩),if_neg p5,if_neg (by rw [h];decide),value_back (back_main l he) hs.tail (by omega)];show PR.ok _ _=_;congr 1
  simp only [List.length_cons,List.length_append,List.length_nil]
  omega
 | @putS d n e e' h0 h1 he he' =>
  refine ⟨fun f i o hs hel ho hf=>?_,fun h=>absurd h (by simp [opT])⟩;rw [toks_put] at hs ⊢;obtain ⟨k1,hlt⟩:=hs.at;obtain ⟨g,rfl⟩:∃ g,f=g+1:=⟨f - 1,by omega⟩;obtain ⟨a1,a2,-⟩:=bare_kind k1;obtain ⟨n1,n2⟩:=kind_word n h0 h1
  have hs2:Seg l (i+1) ((sK [91] :: (toksE e++[sK [93]]))++(sK [61] :: (toksE e'++[sK [59]]))):=by
   have:(sK [91] :: (toksE e++[sK [93]]))++(sK [61] :: (toksE e'++[sK [59]]))=sK [91] :: (toksE e++sK [93] :: sK [61] :: (toksE e'++[sK [59]])):=by simp
   rw [this];exact hs.tail
  obtain ⟨g1,g2⟩:=hs2.app;have el:i+1+(sK [91] :: (toksE e++[sK [93]])).length=i+1+(toksE e).length+2:=by simp only [List.length_cons,List.length_append,List.length_nil];omega
  rw [el] at g2;rw [stmtS,a1,a2,if_neg (by decide),if_pos (by omega),insideT_back (back_main l he) g1 (by decide) (by omega)];show (valueT l _ o).map _=_;rw [value_back (back_main l he') g2 (by omega),n1];show PR.ok _ _=_;congr 1
  simp only [List.length_cons,List.length_append,List.length_nil]
  omega
 | @stopS d op h =>
  refine ⟨fun f i o hs hel ho hf=>?_,fun h4=>?_⟩
  ·obtain ⟨w,hw,ht⟩:∃ w,((w=[115,116,111,112]∧op=6)∨(w=[102,97,105,108]∧op=7))∧toksT (.mk op 0 [] [] [] [])=[wK w,sK [59]]:=by
    rcases h with rfl | rfl
    ·exact ⟨_,.inl ⟨rfl,rfl⟩,toks_stop⟩
    ·exact ⟨_,.inr ⟨rfl,rfl⟩,toks_fail⟩
   rw [ht] at hs ⊢;obtain ⟨k1,hlt⟩:=hs.at;obtain ⟨k2,hlt2⟩:=hs.tail.at;obtain ⟨g,rfl⟩:∃ g,f=g+1:=⟨f - 1,by omega⟩;obtain ⟨a1,a2,-⟩:=bare_kind k1;rw [stmtS,a1,a2,if_neg (by decide),is_sK k2];rcases hw with ⟨rfl,rfl⟩ | ⟨rfl,rfl⟩
   ·rw [if_neg (by decide +kernel),if_pos (by decide),if_neg (by decide)];rfl
   ·rw [if_neg (by decide +kernel),if_pos (by decide),if_neg (by decide)];rfl
  ·rcases h with rfl | rfl <;> exact absurd h4 (by decide)
 | @whileS d e body he hb ihb =>
  refine ⟨fun f i o hs hel ho hf=>?_,fun h=>absurd h (by simp [opT])⟩;rw [toks_while] at hs ⊢;obtain ⟨k1,hlt⟩:=hs.at;obtain ⟨g,rfl⟩:∃ g,f=g+1:=⟨f - 1,by omega⟩;obtain ⟨a1,a2,-⟩:=bare_kind k1;obtain ⟨q1,q2⟩:=head_back (f:=g) (o:=o) he hb (fun s hs=>(ihb s hs).1) hs.tail (by omega) (by omega);obtain ⟨m,hm⟩:∃ m,l.length+1 - i=m+1:=⟨l.length - i,by omega⟩;rw [stmtS,a1,a2,if_neg (by decide),if_neg (by decide +kernel),if_neg (by decide),if_pos (by decide),hm,branchS,q1];simp only [PR.andThen];rw [q2];simp only;rw [is_wK k1,if_pos (by decide)];congr 1
  simp only [List.length_cons]
  omega
 | @ifS d e body els he hb hl ihb ihl =>
  have key:BrB l (d+1) (.mk 4 0 [] [e] body els):=by
   intro f g i o hs hel ho hf hg;have hB:∀ s ∈ body,StB l d s:=fun s hs=>(ihb s hs).1
   have hi:∃ r,toksT (.mk 4 0 [] [e] body els)=wK [105,102] :: (toksB e body++r)∧(els=[]∧r=[]∨(∃ x,els=[x]∧opT x=4∧r=wK elseW :: toksT x)∨(els≠[]∧r=wK elseW :: sK [123] :: (toksTs els++[sK [125]]))):=by
    cases els with
    | nil=>exact ⟨[],by rw [toks_if0,List.append_nil],.inl ⟨rfl,rfl⟩⟩
    | cons x r =>
     cases hx:elseIf (x :: r) with
     | false=>exact ⟨_,toks_ife _ _ _ _ hx,.inr (.inr ⟨by simp,rfl⟩)⟩
     | true =>
      cases r with
      | nil =>
       obtain ⟨op,n',nm,es,bb,ll⟩:=x;have h4:op=4:=of_decide_eq_true hx
       exact ⟨_,toks_ifi _ _ _ h4,.inr (.inl ⟨_,rfl,h4,rfl⟩)⟩
      | cons y r=>simp [elseIf] at hx
   obtain ⟨r,ht,hr⟩:=hi;rw [ht] at hs hel ⊢;obtain ⟨k1,hlt⟩:=hs.at;obtain ⟨g1,g2⟩:=hs.tail.app;obtain ⟨m,rfl⟩:∃ m,g=m+1:=⟨g - 1,by omega⟩;obtain ⟨q1,q2⟩:=head_back (f:=f) (o:=o) he hb hB g1 (by omega) (by omega);rw [branchS,q1];simp only [PR.andThen];rw [q2];simp only;rw [is_wK k1,if_neg (by decide)]
   have elen:i+(wK [105,102] :: (toksB e body++r)).length=i+1+(toksB e body).length+r.length:=by
    simp only [List.length_cons,List.length_append];omega
   rw [elen] at hel ⊢;rcases hr with ⟨rfl,rfl⟩ | ⟨x,rfl,h4,rfl⟩ | ⟨hne,rfl⟩
   ·rw [List.length_nil,Nat.add_zero] at hel ⊢;rw [show isS l (i+1+(toksB e body).length) [101,108,115,101]=false from hel,if_pos rfl];rfl
   ·obtain ⟨k2,hlt2⟩:=g2.at;obtain ⟨w,t,hw,-,hw4⟩:=toksT_head (hl x (by simp));have g3:=g2.tail;have g4:=g3;rw [hw,hw4 h4] at g4;obtain ⟨k3,hlt3⟩:=g4.at
    have hel2:isS l (i+1+(toksB e body).length+1+(toksT x).length) elseW=false:=by
     rw [List.length_cons] at hel;rw [← hel];congr 1
     omega
    have hbr:=(ihl x (by simp)).2 h4 f m _ (o+1) g3 hel2 (by omega) (by omega) (by omega);rw [is_wK k2,if_neg (by decide),if_neg (by omega),is_wK k3,if_pos (by decide),hbr];show PR.ok _ _=_;congr 1
    rw [List.length_cons];omega
   ·obtain ⟨k2,hlt2⟩:=g2.at;obtain ⟨k3,hlt3⟩:=g2.tail.at;have hbl:=block_back (f:=f) (o:=o+1) hl (fun s hs=>(ihl s hs).1) g2.tail (by omega) (by omega);rw [is_wK k2,if_neg (by decide),if_neg (by omega),is_sK k3,if_neg (by decide),hbl];show PR.ok _ _=_;congr 1
    simp only [List.length_cons,List.length_append,List.length_nil];omega
  refine ⟨fun f i o hs hel ho hf=>?_,fun _=>key⟩;obtain ⟨w,t,hw,-,hw4⟩:=toksT_head (.ifS he hb hl);have hs2:=hs;rw [hw,hw4 rfl] at hs2;obtain ⟨k1,hlt⟩:=hs2.at;obtain ⟨g,rfl⟩:∃ g,f=g+1:=⟨f - 1,by omega⟩;obtain ⟨a1,a2,-⟩:=bare_kind k1;rw [stmtS,a1,a2,if_neg (by decide),if_neg (by decide +kernel),if_neg (by decide),if_pos (by decide)];exact key g _ i o hs hel ho (by omega) (by omega)
theorem all_back {l:List Tok} {d:Nat} (hd:2 * d+82≤200):∀ (r xs:List St) (i F:Nat),(∀ s ∈ r,ShpT d s)→Seg l i (toksTs r)→(tokAt l (i+(toksTs r).length)).kind=4→l.length+1 - i≤F→allS l F xs i=.ok (xs++r) (i+(toksTs r).length):=by
 intro r
 induction r with
 | nil =>
  intro xs i F hb hs h4 hF;have hle:=hs.le;obtain ⟨F',rfl⟩:∃ F',F=F'+1:=⟨F - 1,by omega⟩;rw [allS,if_pos (show (tokAt l i).kind=4 from h4),List.append_nil]
  rfl
 | cons x r ih =>
  intro xs i F hb hs h4 hF;rw [toksTs] at hs;obtain ⟨h1,h2⟩:=hs.app;obtain ⟨w,t,ht,hw,-⟩:=toksT_head (hb x (by simp));have h3:=h1;rw [ht] at h3;obtain ⟨k1,hlt⟩:=h3.at;obtain ⟨F',rfl⟩:∃ F',F=F'+1:=⟨F - 1,by omega⟩;have hr:∀ s ∈ r,ShpT d s:=fun s hs=>hb s (List.mem_cons_of_mem _ hs)
  have el:i+(toksTs (x :: r)).length=i+(toksT x).length+(toksTs r).length:=by rw [toksTs,List.length_append];omega
  rw [el] at h4 ⊢
  have hno:isS l (i+(toksT x).length) elseW=false:=by
   cases r with
   | nil =>
    unfold isS;rw [show (tokAt l (i+(toksT x).length)).kind=4 from h4]
    rfl
   | cons y r =>
    obtain ⟨w,t,ht,hb',-⟩:=toksT_head (hr y (by simp));rw [toksTs,ht] at h2;obtain ⟨k2,-⟩:=Seg.at (r:=t++toksTs r) h2;rw [is_wK k2];exact decide_eq_false hb'.2
  obtain ⟨a1,-,-⟩:=bare_kind k1;have hst:stmtT l i 0=.ok x (i+(toksT x).length):=(stmt_back l (hb x (by simp))).1 _ i 0 h1 hno (by omega) (by omega);rw [allS,a1,if_neg (by decide),hst];show allS l F' (xs++[x]) _=_;have hpos:1≤(toksT x).length:=by rw [ht];simp
  rw [ih (xs++[x]) _ F' hr h2 h4 (by omega),List.append_assoc];rfl
end Go.Proofs.YtoaojdobjinhfaaGreatDoor
namespace Go.Proofs.YtoaojdobjinhfaaGreatDoor

def Lx (s : List UInt8) (ks : List BK) (r : List UInt8) : Prop := ∀ l c, ∃ us l' c', us.map Tok.bare = ks ∧ lexF (s ++ r) l c = (lexF r l' c').pre us
theorem LexR.pre_pre (a b:List Tok) (r:LexR):(r.pre b).pre a=r.pre (a++b):=by cases r <;> simp [LexR.pre]
theorem Lx.nil (r:List UInt8):Lx [] [] r:=fun l c=>⟨[],l,c,rfl,by rw [LexR.pre_nil];rfl⟩
theorem Lx.app {s t r:List UInt8} {ks kt:List BK} (h:Lx s ks (t++r)) (h':Lx t kt r):Lx (s++t) (ks++kt) r:=by
 intro l c;obtain ⟨us,l1,c1,e1,h1⟩:=h l c;obtain ⟨vs,l2,c2,e2,h2⟩:=h' l1 c1;exact ⟨us++vs,l2,c2,by rw [List.map_append,e1,e2],by rw [List.append_assoc,h1,h2,LexR.pre_pre]⟩
theorem cons_pre (t:Tok) (r:LexR):r.cons t=r.pre [t]:=by cases r <;> rfl
theorem Lx.tok {t:Tok} (ht:TokOk t) {r:List UInt8} (hr:Ends t r):Lx t.text [t.bare] r:=
 fun l c=>⟨[t.moved l c],l,c+t.text.length,rfl,by rw [lexF_ends ht hr,cons_pre]⟩
theorem Lx.blank {b:UInt8} (hb:b=32∨b=9∨b=10) (r:List UInt8):Lx [b] [] r:=by
 intro l c;rcases hb with rfl | rfl | rfl
 ·exact ⟨[],l,c+1,rfl,by rw [LexR.pre_nil];exact lexF_space r l c⟩
 ·exact ⟨[],l,c+1,rfl,by rw [LexR.pre_nil,lexF_eq,show skipS ([9]++r) false l c=skipS r false l (c+1) from skip_sp (.inr rfl),← lexF_eq]⟩
 ·exact ⟨[],l+1,1,rfl,by rw [LexR.pre_nil,lexF_eq,show skipS ([10]++r) false l c=skipS r false (l+1) 1 from skip_nl rfl,← lexF_eq]⟩
theorem Lx.blanks {s:List UInt8} (hs:∀ b ∈ s,b=32∨b=9∨b=10) (r:List UInt8):Lx s [] r:=by
 induction s with
 | nil=>exact .nil r
 | cons b s ih=>exact Lx.app (s:=[b]) (ks:=[]) (.blank (hs b (by simp)) _) (ih fun x hx=>hs x (List.mem_cons_of_mem _ hx))
def NoPart (r : List UInt8) : Prop := r.head?.all (fun b => !partB b) = true
theorem Lx.word {w r:List UInt8} (hw:wordS w=true) (hr:NoPart r):Lx w [wK w] r:=by
 cases w with
 | nil=>cases hw
 | cons b t =>
  unfold wordS at hw;simp only [Bool.and_eq_true,decide_eq_true_eq] at hw;exact Lx.tok (t:=⟨1,b :: t,0,0,0⟩) (.word hw.1.2 (by simp [part_letter hw.1.2,hw.2]) hw.1.1) ⟨fun _=>hr,fun h=>by cases h⟩
theorem digits_part {n:Nat} (hn:n≤9223372036854775807):∃ b t,Lib.decDigits n=b :: t∧digitB b=true∧letterB b=false∧(b :: t).all partB=true:=by
 obtain ⟨-,-,-,h4,h5⟩:=value_dec n hn
 cases he:Lib.decDigits n with
 | nil=>exact absurd he h4
 | cons b t =>
  rw [he] at h5;have hb:digitB b=true:=h5 b (by simp);have hv:=(value_dec n hn).1;rw [he] at hv;refine ⟨b,t,rfl,hb,?_,?_⟩
  ·rw [digit_iff] at hb
   cases hl:letterB b with
   | false=>rfl
   | true =>
    unfold letterB letterI at hl;simp only [Bool.or_eq_true,Bool.and_eq_true,decide_eq_true_eq,beq_iff_eq] at hl;omega
  ·rw [List.all_eq_true]
   have:∀ (l:List UInt8) (a m:Int),valueGo l a=some m→∀ x ∈ l,partB x=true:=by
    intro l
    induction l with
    | nil=>intro a m _ x hx;cases hx
    | cons y l ih =>
     intro a m h x hx;rw [valueGo] at h;split at h
     ·cases h
     ·rename_i hd
      split at h
      ·cases h
      ·rcases List.mem_cons.1 hx with rfl | hx
       ·exact part_digit (by simpa using hd)
       ·exact ih _ _ h x hx
   exact this _ _ _ hv
theorem Lx.num {n:Int} {r:List UInt8} (h0:0≤n) (h1:n≤9223372036854775807) (hr:NoPart r):Lx (Lib.decDigits n.toNat) [nK n] r:=by
 have hv:=valueR_dec n.toNat (by omega);obtain ⟨b,t,he,hd,hl,ha⟩:=digits_part (n:=n.toNat) (by omega);have e:((n.toNat:Nat):Int)=n:=by omega
 rw [e,he] at hv;have:=Lx.tok (t:=⟨2,b :: t,n,0,0⟩) (.number hl hd ha hv) (r:=r) ⟨fun _=>hr,fun h=>by cases h⟩;unfold nK;rw [he];exact this
def freeN (a : UInt8) : Bool := !decide (a.toNat = 61 ∨ a.toNat = 33 ∨ a.toNat = 60 ∨ a.toNat = 62 ∨ a.toNat = 38 ∨ a.toNat = 124)
theorem Lx.sign {a:UInt8} (r:List UInt8) (h:letterB a=false) (h':digitB a=false) (h2:signLen [a]=1) (hf:freeN a=true):Lx [a] [sK [a]] r:=by
 refine Lx.tok (t:=⟨3,[a],0,0,0⟩) (.sign h h' h2) ⟨fun h=>absurd rfl h,fun _ x b r' hx _ hm=>?_⟩;cases hx;unfold freeN at hf;simp only [Bool.not_eq_true',decide_eq_false_iff_not] at hf;simp only [twoSigns,List.mem_cons,Prod.mk.injEq,List.not_mem_nil,or_false] at hm;omega
theorem Lx.stop {b:UInt8} {t r:List UInt8} (h:letterB b=false) (h':digitB b=false) (h2:signLen (b :: t)=(b :: t).length) (hr:stopsB r=true):Lx (b :: t) [sK (b :: t)] r:=by
 intro l c;exact ⟨[⟨3,b :: t,0,l,c⟩],l,c+(b :: t).length,rfl,by rw [← cons_pre];exact lexF_tok (t:=⟨3,b :: t,0,0,0⟩) (.sign h h' h2) hr l c⟩
theorem Lx.bang {b:UInt8} {r:List UInt8} (hb:b.toNat≠61):Lx [33] [sK [33]] (b :: r):=by
 refine Lx.tok (t:=⟨3,[33],0,0,0⟩) (.sign (by decide) (by decide) (by decide)) ⟨fun h=>absurd rfl h,fun _ x b' r' hx he hm=>?_⟩;cases hx;cases he;simp only [twoSigns,List.mem_cons,Prod.mk.injEq,List.not_mem_nil,or_false] at hm;rcases hm with h | h | h | h | h | h
 all_goals (obtain ⟨h1,h2⟩:=h;first | exact hb h2 | exact absurd h1 (by decide))
theorem stops_noPart {r:List UInt8} (h:stopsB r=true):NoPart r:=stops_part h
theorem write_num (n:Int):writeE (.mk 1 n [] [])=Lib.decDigits n.toNat:=rfl
theorem write_var (s:List UInt8):writeE (.mk 2 0 s [])=s:=rfl
theorem write_comp (n:Int) (a:Ex):writeE (.mk 3 n [] [a])=kindWords.getD (n - 1).toNat []++[91]++writeE a++[93]:=by
 simp only [writeE,writeL_cons];rfl
theorem write_tick:writeE (.mk 4 0 [] [])=[116,105,99,107]:=rfl
theorem write_self:writeE (.mk 5 0 [] [])=[115,101,108,102]:=rfl
theorem write_rand (a:Ex):writeE (.mk 6 0 [] [a])=[114,97,110,100]++[40]++writeE a++[41]:=by simp only [writeE,writeL_cons];rfl
theorem write_abs (a:Ex):writeE (.mk 9 0 [] [a])=[97,98,115]++[40]++writeE a++[41]:=by simp only [writeE,writeL_cons];rfl
theorem write_neg (a:Ex):writeE (.mk 7 0 [] [a])=[45]++partW (bindE a,writeE a) 6:=by simp only [writeE,writeL_cons];rfl
theorem write_not (a:Ex):writeE (.mk 8 0 [] [a])=[33]++partW (bindE a,writeE a) 6:=by simp only [writeE,writeL_cons];rfl
theorem write_min (a b:Ex):writeE (.mk 23 0 [] [a,b])=[109,105,110]++[40]++writeE a++[44,32]++writeE b++[41]:=by simp only [writeE,writeL_cons];rfl
theorem write_max (a b:Ex):writeE (.mk 24 0 [] [a,b])=[109,97,120]++[40]++writeE a++[44,32]++writeE b++[41]:=by simp only [writeE,writeL_cons];rfl
theorem write_bin {op:Int} (h0:10≤op) (h1:op≤22) (a b:Ex):writeE (.mk op 0 [] [a,b])=partW (bindE a,writeE a) (leftB (bindS op))++[32]++signOf op++[32]++partW (bindE b,writeE b) (bindS op+1):=by
 have:=sign_op h0 h1;simp only [writeE,writeL_cons];unfold shapeW;rw [if_pos (by omega)];rfl
def LxE (x : Ex) : Prop := (∀ r, stopsB r = true → Lx (writeE x) (toksE x) r) ∧ ∃ b t, writeE x = b :: t ∧ b.toNat ≠ 61
theorem LxE.part {x:Ex} (h:LxE x) (least:Nat):(∀ r,stopsB r=true→Lx (partW (bindE x,writeE x) least) (partK (bindE x,toksE x) least) r)∧∃ b t,partW (bindE x,writeE x) least=b :: t∧b.toNat≠61:=by
 unfold partW partK;by_cases hb:bindE x < least
 ·simp only [if_pos hb];refine ⟨fun r hr=>?_,⟨40,_,rfl,by decide⟩⟩;have:=Lx.app (Lx.app (Lx.sign (a:=40) (writeE x++([41]++r)) (by decide) (by decide) (by decide) (by decide)) (h.1 ([41]++r) rfl)) (Lx.sign (a:=41) r (by decide) (by decide) (by decide) (by decide));exact this
 ·simp only [if_neg hb];exact h
theorem word_head {w:List UInt8} (h:wordS w=true):∃ b t,w=b :: t∧b.toNat≠61:=by
 cases w with
 | nil=>cases h
 | cons b t =>
  refine ⟨b,t,rfl,?_⟩;unfold wordS at h;simp only [Bool.and_eq_true] at h;intro e;have hl:=h.1.2;unfold letterB letterI at hl;rw [e] at hl;exact absurd hl (by decide)
theorem lx_call1 {w:List UInt8} (hw:wordS w=true) {o c:UInt8} (ho:letterB o=false∧digitB o=false∧signLen [o]=1∧freeN o=true) (hc:letterB c=false∧digitB c=false∧signLen [c]=1∧freeN c=true) (hs:∀ r,stopsB (c :: r)=true) {a:Ex} (ha:LxE a) {x:Ex} (ex:writeE x=w++[o]++writeE a++[c]) (et:toksE x=call1 w [o] [c] (toksE a)):LxE x:=by
 refine ⟨fun r _=>?_,?_⟩
 ·rw [ex,et]
  have hn:NoPart ([o]++(writeE a++([c]++r))):=by
   show (!partB o)=true;unfold partB;rw [ho.1,ho.2.1];rfl
  have:=Lx.app (Lx.app (Lx.app (Lx.word hw hn) (Lx.sign (writeE a++([c]++r)) ho.1 ho.2.1 ho.2.2.1 ho.2.2.2)) (ha.1 ([c]++r) (hs r))) (Lx.sign r hc.1 hc.2.1 hc.2.2.1 hc.2.2.2);have e:[wK w]++[sK [o]]++toksE a++[sK [c]]=call1 w [o] [c] (toksE a):=by simp [call1]
  rw [e] at this;exact this
 ·obtain ⟨b,t,e,hb⟩:=word_head hw;exact ⟨b,t++[o]++writeE a++[c],by rw [ex,e];rfl,hb⟩
theorem lx_call2 {w:List UInt8} (hw:wordS w=true) {a b:Ex} (ha:LxE a) (hb:LxE b) {x:Ex} (ex:writeE x=w++[40]++writeE a++[44,32]++writeE b++[41]) (et:toksE x=call2 w (toksE a) (toksE b)):LxE x:=by
 refine ⟨fun r _=>?_,?_⟩
 ·rw [ex,et];have hn:NoPart ([40]++(writeE a++([44,32]++(writeE b++([41]++r))))):=(by decide:(!partB 40)=true);have hcs:Lx [44,32] [sK [44]] (writeE b++([41]++r)):=Lx.app (s:=[44]) (t:=[32]) (kt:=[]) (Lx.sign _ (by decide) (by decide) (by decide) (by decide)) (Lx.blank (.inl rfl) _);have:=Lx.app (Lx.app (Lx.app (Lx.app (Lx.app (Lx.word hw hn) (Lx.sign (a:=40) (writeE a++([44,32]++(writeE b++([41]++r)))) (by decide) (by decide) (by decide) (by decide))) (ha.1 ([44,32]++(writeE b++([41]++r))) rfl)) hcs) (hb.1 ([41]++r) rfl)) (Lx.sign (a:=41) r (by decide) (by decide) (by decide) (by decide));have e:[wK w]++[sK [40]]++toksE a++[sK [44]]++toksE b++[sK [41]]=call2 w (toksE a) (toksE b):=by simp [call2]
  rw [e] at this;exact this
 ·obtain ⟨c,t,e,hc⟩:=word_head hw;exact ⟨c,t++[40]++writeE a++[44,32]++writeE b++[41],by rw [ex,e];rfl,hc⟩
theorem sign_lx {op:Int} (h0:10≤op) (h1:op≤22) (r:List UInt8):Lx (signOf op) [sK (signOf op)] (32 :: r):=by
 obtain ⟨b,t,e,h1,h2,h3⟩:∃ b t,signOf op=b :: t∧letterB b=false∧digitB b=false∧signLen (b :: t)=(b :: t).length:=by
  obtain ⟨k,rfl⟩:=op_forms h0 h1;have key:∀ k:Fin 13,(signOf (10+(k.val:Int))).head?.all (fun b=>!letterB b && !digitB b)=true∧signLen (signOf (10+(k.val:Int)))=(signOf (10+(k.val:Int))).length∧signOf (10+(k.val:Int))≠[]:=by decide
  obtain ⟨k1,k2,k3⟩:=key k
  cases he:signOf (10+(k.val:Int)) with
  | nil=>exact absurd he k3
  | cons b t =>
   rw [he] at k1 k2;simp only [List.head?_cons,Option.all_some,Bool.and_eq_true,Bool.not_eq_true'] at k1;exact ⟨b,t,rfl,k1.1,k1.2,k2⟩
 rw [e];exact Lx.stop h1 h2 h3 rfl
theorem lx_expr:∀ {d:Nat} {x:Ex},Shp d x→LxE x:=by
 intro d x h
 induction h with
 | @num d n h0 h1 =>
  refine ⟨fun r hr=>?_,?_⟩
  ·rw [write_num,toks_num];exact Lx.num h0 h1 (stops_noPart hr)
  ·obtain ⟨b,t,e,hd,-,-⟩:=digits_part (n:=n.toNat) (by omega);rw [digit_iff] at hd
   exact ⟨b,t,by rw [write_num,e],by omega⟩
 | @var d name h =>
  refine ⟨fun r hr=>?_,?_⟩
  ·rw [write_var,toks_var];exact Lx.word (name_parts h).1 (stops_noPart hr)
  ·rw [write_var];exact word_head (name_parts h).1
 | @comp d n a h0 h1 h ih=>exact lx_call1 (kind_word n h0 h1).2 (by decide) (by decide) (fun _=>rfl) ih (write_comp n a) (toks_comp n a)
 | @leaf d op h =>
  rcases h with rfl | rfl
  ·exact ⟨fun r hr=>Lx.word (by decide +kernel) (stops_noPart hr),⟨_,_,rfl,by decide⟩⟩
  ·exact ⟨fun r hr=>Lx.word (by decide +kernel) (stops_noPart hr),⟨_,_,rfl,by decide⟩⟩
 | @call d op a ho' h ih =>
  rcases ho' with rfl | rfl
  ·exact lx_call1 (by decide +kernel) (by decide) (by decide) (fun _=>rfl) ih (write_rand a) (toks_rand a)
  ·exact lx_call1 (by decide +kernel) (by decide) (by decide) (fun _=>rfl) ih (write_abs a) (toks_abs a)
 | @pre d op a ho' h ih =>
  obtain ⟨hp,b,t,e,hb⟩:=ih.part 6;rcases ho' with rfl | rfl
  ·refine ⟨fun r hr=>?_,⟨45,_,by rw [write_neg];rfl,by decide⟩⟩;rw [write_neg,toks_neg];exact Lx.app (s:=[45]) (ks:=[sK [45]]) (Lx.sign _ (by decide) (by decide) (by decide) (by decide)) (hp r hr)
  ·refine ⟨fun r hr=>?_,⟨33,_,by rw [write_not];rfl,by decide⟩⟩;rw [write_not,toks_not];refine Lx.app (s:=[33]) (ks:=[sK [33]]) ?_ (hp r hr);rw [e]
   exact Lx.bang hb
 | @two d op a b ho' ha hb iha ihb =>
  rcases ho' with rfl | rfl
  ·exact lx_call2 (by decide +kernel) iha ihb (write_min a b) (toks_min a b)
  ·exact lx_call2 (by decide +kernel) iha ihb (write_max a b) (toks_max a b)
 | @bin d op a b h0 h1 ha hb iha ihb =>
  obtain ⟨pa,c,t,e,hc⟩:=iha.part (leftB (bindS op));obtain ⟨pb,-⟩:=ihb.part (bindS op+1);refine ⟨fun r hr=>?_,⟨c,_,by rw [write_bin h0 h1,e];rfl,hc⟩⟩;rw [write_bin h0 h1,toks_bin h0 h1];have:=Lx.app (Lx.app (Lx.app (Lx.app (pa ([32]++(signOf op++([32]++(partW (bindE b,writeE b) (bindS op+1)++r)))) rfl) (Lx.blank (.inl rfl) _)) (sign_lx h0 h1 _)) (Lx.blank (.inl rfl) _)) (pb r hr);simpa using this
end Go.Proofs.YtoaojdobjinhfaaGreatDoor
namespace Go.Proofs.YtoaojdobjinhfaaGreatDoor

theorem np32 (r:List UInt8):NoPart (32 :: r):=(by decide:(!partB 32)=true)
theorem np59 (r:List UInt8):NoPart (59 :: r):=(by decide:(!partB 59)=true)
theorem np91 (r:List UInt8):NoPart (91 :: r):=(by decide:(!partB 91)=true)
def Tabs (t : List UInt8) : Prop := ∀ b ∈ t, b = 9
theorem Tabs.more {t:List UInt8} (h:Tabs t):Tabs (t++[9]):=fun b hb=>by
 rcases List.mem_append.1 hb with hb | hb
 ·exact h b hb
 ·simpa using hb
theorem Tabs.lx {t:List UInt8} (h:Tabs t) (r:List UInt8):Lx t [] r:=Lx.blanks (fun b hb=>.inr (.inl (h b hb))) r
theorem lx_sg (a:UInt8) (r:List UInt8) (h:(!letterB a && !digitB a && decide (signLen [a]=1) && freeN a)=true):Lx [a] [sK [a]] r:=by
 simp only [Bool.and_eq_true,Bool.not_eq_true',decide_eq_true_eq] at h;exact Lx.sign r h.1.1.1 h.1.1.2 h.1.2 h.2
theorem lx_sp {s:List UInt8} {ks:List BK} {b:UInt8} (hb:b=32∨b=9∨b=10) {r:List UInt8} (h:Lx s ks (b :: r)):Lx (s++[b]) ks r:=by
 have:=Lx.app (s:=s) (ks:=ks) (t:=[b]) (kt:=[]) h (Lx.blank hb r);rw [List.append_nil] at this;exact this
theorem lx_eq (r:List UInt8):Lx [32,61,32] [sK [61]] r:=by
 have h1:Lx [61] [sK [61]] (32 :: r):=Lx.stop (by decide) (by decide) (by decide) rfl;exact Lx.app (s:=[32]) (ks:=[]) (t:=[61,32]) (Lx.blank (.inl rfl) _) (lx_sp (s:=[61]) (.inl rfl) h1)
def StL (s : St) : Prop := ∀ (tabs r : List UInt8), Tabs tabs → Lx (oneW tabs s) (toksT s) r
theorem lx_lines:∀ (l:List St),(∀ s ∈ l,StL s)→∀ (tabs r:List UInt8),Tabs tabs→Lx (linesW tabs l) (toksTs l) r:=by
 intro l
 induction l with
 | nil=>intro _ tabs r _;rw [linesW,toksTs];exact .nil r
 | cons x l ih =>
  intro h tabs r ht;rw [linesW,toksTs];have:=Lx.app (Lx.app (Lx.app (ht.lx (oneW tabs x++([10]++(linesW tabs l++r)))) (h x (by simp) tabs ([10]++(linesW tabs l++r)) ht)) (Lx.blank (.inr (.inr rfl)) (linesW tabs l++r))) (ih (fun s hs=>h s (List.mem_cons_of_mem _ hs)) tabs r ht);simpa using this
def blockW (tabs : List UInt8) (e : Ex) (body : List St) : List UInt8 := [40] ++ writeE e ++ [41, 32, 123, 10] ++ linesW (tabs ++ [9]) body ++ tabs ++ [125]
theorem lx_open (r:List UInt8):Lx [32,123,10] [sK [123]] r:=
 Lx.app (s:=[32]) (ks:=[]) (t:=[123,10]) (Lx.blank (.inl rfl) _) (lx_sp (s:=[123]) (.inr (.inr rfl)) (lx_sg 123 (10 :: r) (by decide)))
theorem lx_block {tabs:List UInt8} (ht:Tabs tabs) {e:Ex} (he:LxE e) {body:List St} (hb:∀ s ∈ body,StL s) (r:List UInt8):Lx (blockW tabs e body) (toksB e body) r:=by
 have h0:Lx [41,32,123,10] [sK [41],sK [123]] (linesW (tabs++[9]) body++(tabs++([125]++r))):=
  Lx.app (s:=[41]) (ks:=[sK [41]]) (t:=[32,123,10]) (lx_sg 41 _ (by decide)) (lx_open _)
 have:=Lx.app (Lx.app (Lx.app (Lx.app (Lx.app (lx_sg 40 (writeE e++([41,32,123,10]++(linesW (tabs++[9]) body++(tabs++([125]++r))))) (by decide)) (he.1 ([41,32,123,10]++(linesW (tabs++[9]) body++(tabs++([125]++r)))) rfl)) h0) (lx_lines body hb (tabs++[9]) (tabs++([125]++r)) ht.more)) (ht.lx ([125]++r))) (lx_sg 125 r (by decide));have ek:[sK [40]]++toksE e++[sK [41],sK [123]]++toksTs body++[]++[sK [125]]=toksB e body:=by simp [toksB]
 rw [ek] at this;exact this
theorem one_let (tabs name:List UInt8) (e:Ex):oneW tabs (.mk 1 0 name [e] [] [])=[108,101,116,32]++name++[32,61,32]++writeE e++[59]:=by rw [oneW];rfl
theorem one_set (tabs name:List UInt8) (e:Ex):oneW tabs (.mk 2 0 name [e] [] [])=name++[32,61,32]++writeE e++[59]:=by rw [oneW];rfl
theorem one_put (tabs:List UInt8) (n:Int) (e e':Ex):oneW tabs (.mk 3 n [] [e,e'] [] [])=kindWords.getD (n - 1).toNat []++[91]++writeE e++[93,32,61,32]++writeE e'++[59]:=by rw [oneW];rfl
theorem one_stop (tabs:List UInt8):oneW tabs (.mk 6 0 [] [] [] [])=[115,116,111,112,59]:=by rw [oneW];rfl
theorem one_fail (tabs:List UInt8):oneW tabs (.mk 7 0 [] [] [] [])=[102,97,105,108,59]:=by rw [oneW];rfl
theorem one_while (tabs:List UInt8) (e:Ex) (body:List St):oneW tabs (.mk 5 0 [] [e] body [])=[119,104,105,108,101,32]++blockW tabs e body:=by rw [oneW];rfl
theorem one_if0 (tabs:List UInt8) (e:Ex) (body:List St):oneW tabs (.mk 4 0 [] [e] body [])=[105,102,32]++blockW tabs e body:=by rw [oneW];rfl
theorem one_ifi (tabs:List UInt8) (e:Ex) (body:List St) (x:St) (hx:opT x=4):oneW tabs (.mk 4 0 [] [e] body [x])=[105,102,32]++blockW tabs e body++[32,101,108,115,101,32]++oneW tabs x:=by
 rw [oneW];have:elseIf [x]=true:=by obtain ⟨op,_,_,_,_,_⟩:=x;exact decide_eq_true hx
 simp only [this,if_true];rfl
theorem one_ife (tabs:List UInt8) (e:Ex) (body:List St) (x:St) (r:List St) (hx:elseIf (x :: r)=false):oneW tabs (.mk 4 0 [] [e] body (x :: r))=[105,102,32]++blockW tabs e body++[32,101,108,115,101,32,123,10]++linesW (tabs++[9]) (x :: r)++tabs++[125]:=by
 rw [oneW];simp only [hx];rfl
theorem lx_ws {w:List UInt8} (hw:wordS w=true) (r:List UInt8):Lx (w++[32]) [wK w] r:=lx_sp (.inl rfl) (Lx.word hw (np32 _))
theorem lx_value {e:Ex} (he:LxE e) (r:List UInt8):Lx ([32,61,32]++writeE e++[59]) (sK [61] :: (toksE e++[sK [59]])) r:=by
 have:=Lx.app (Lx.app (lx_eq (writeE e++([59]++r))) (he.1 ([59]++r) rfl)) (lx_sg 59 r (by decide));have ek:[sK [61]]++toksE e++[sK [59]]=sK [61] :: (toksE e++[sK [59]]):=by simp
 rw [ek] at this;exact this
theorem lx_stmt:∀ {d:Nat} {s:St},ShpT d s→StL s:=by
 intro d s h
 induction h with
 | @letS d name e h he =>
  intro tabs r _;rw [one_let,toks_let];have:=Lx.app (Lx.app (lx_ws (w:=[108,101,116]) (by decide +kernel) (name++(([32,61,32]++writeE e++[59])++r))) (Lx.word (r:=([32,61,32]++writeE e++[59])++r) (name_parts h).1 (np32 _))) (lx_value (lx_expr he) r)
  simpa using this
 | @setS d name e h he =>
  intro tabs r _;rw [one_set,toks_set];have:=Lx.app (Lx.word (r:=([32,61,32]++writeE e++[59])++r) (name_parts h).1 (np32 _)) (lx_value (lx_expr he) r)
  simpa using this
 | @putS d n e e' h0 h1 he he' =>
  intro tabs r _;rw [one_put,toks_put];have h3:Lx ([93]++([32,61,32]++writeE e'++[59])) ([sK [93]]++(sK [61] :: (toksE e'++[sK [59]]))) r:=Lx.app (lx_sg 93 _ (by decide)) (lx_value (lx_expr he') r);have:=Lx.app (Lx.app (Lx.app (Lx.word (r:=[91]++(writeE e++(([93]++([32,61,32]++writeE e'++[59]))++r))) (kind_word n h0 h1).2 (np91 _)) (lx_sg 91 (writeE e++(([93]++([32,61,32]++writeE e'++[59]))++r)) (by decide))) ((lx_expr he).1 (([93]++([32,61,32]++writeE e'++[59]))++r) rfl)) h3
  simpa using this
 | @stopS d op h =>
  intro tabs r _;rcases h with rfl | rfl
  ·rw [one_stop,toks_stop];exact Lx.app (s:=[115,116,111,112]) (t:=[59]) (ks:=[wK [115,116,111,112]]) (Lx.word (by decide +kernel) (np59 _)) (lx_sg 59 r (by decide))
  ·rw [one_fail,toks_fail]
   exact Lx.app (s:=[102,97,105,108]) (t:=[59]) (ks:=[wK [102,97,105,108]]) (Lx.word (by decide +kernel) (np59 _)) (lx_sg 59 r (by decide))
 | @whileS d e body he hb ihb =>
  intro tabs r ht;rw [one_while,toks_while]
  exact Lx.app (lx_ws (w:=[119,104,105,108,101]) (by decide +kernel) _) (lx_block ht (lx_expr he) ihb r)
 | @ifS d e body els he hb hl ihb ihl =>
  intro tabs r ht
  cases els with
  | nil =>
   rw [one_if0,toks_if0]
   exact Lx.app (lx_ws (w:=[105,102]) (by decide +kernel) _) (lx_block ht (lx_expr he) ihb r)
  | cons x y =>
   cases hx:elseIf (x :: y) with
   | false =>
    rw [one_ife _ _ _ _ _ hx,toks_ife _ _ _ _ hx]
    have h1:Lx [32,101,108,115,101,32,123,10] [wK elseW,sK [123]] (linesW (tabs++[9]) (x :: y)++(tabs++([125]++r))):=
     Lx.app (s:=[32]) (ks:=[]) (t:=[101,108,115,101,32,123,10]) (Lx.blank (.inl rfl) _) (Lx.app (s:=[101,108,115,101]) (ks:=[wK elseW]) (t:=[32,123,10]) (Lx.word (by decide +kernel) (np32 _)) (lx_open _))
    have:=Lx.app (Lx.app (Lx.app (Lx.app (Lx.app (lx_ws (w:=[105,102]) (by decide +kernel) (blockW tabs e body++([32,101,108,115,101,32,123,10]++(linesW (tabs++[9]) (x :: y)++(tabs++([125]++r)))))) (lx_block ht (lx_expr he) ihb _)) h1) (lx_lines (x :: y) ihl (tabs++[9]) (tabs++([125]++r)) ht.more)) (ht.lx ([125]++r))) (lx_sg 125 r (by decide));have ek:[wK [105,102]]++toksB e body++[wK elseW,sK [123]]++toksTs (x :: y)++[]++[sK [125]]=wK [105,102] :: (toksB e body++wK [101,108,115,101] :: sK [123] :: (toksTs (x :: y)++[sK [125]])):=by simp [elseW]
    rw [ek] at this
    exact this
   | true =>
    cases y with
    | cons y z=>simp [elseIf] at hx
    | nil =>
     have h4:opT x=4:=by obtain ⟨op,n',nm,es,bb,ll⟩:=x;exact of_decide_eq_true hx
     rw [one_ifi _ _ _ _ h4,toks_ifi _ _ _ h4]
     have h1:Lx [32,101,108,115,101,32] [wK elseW] (oneW tabs x++r):=
      Lx.app (s:=[32]) (ks:=[]) (t:=[101,108,115,101,32]) (Lx.blank (.inl rfl) _) (lx_ws (w:=[101,108,115,101]) (by decide +kernel) _)
     have:=Lx.app (Lx.app (Lx.app (lx_ws (w:=[105,102]) (by decide +kernel) (blockW tabs e body++([32,101,108,115,101,32]++(oneW tabs x++r)))) (lx_block ht (lx_expr he) ihb _)) h1) (ihl x (by simp) tabs r ht);have ek:[wK [105,102]]++toksB e body++[wK elseW]++toksT x=wK [105,102] :: (toksB e body++wK [101,108,115,101] :: toksT x):=by simp [elseW]
     rw [ek] at this;exact this
theorem lexed {s:List UInt8} {ks:List BK} (h:Lx s ks []):∃ us l c,lexF s 1 1=.ok (us++[endT l c])∧us.map Tok.bare=ks:=by
 obtain ⟨us,l,c,e,h1⟩:=h 1 1;rw [List.append_nil,lexF_nil] at h1;exact ⟨us,l,c,h1,e⟩
theorem seg_all {us:List Tok} {ks:List BK} {l c:Int} (h:us.map Tok.bare=ks):Seg (us++[endT l c]) 0 ks:=⟨[],[(endT l c).bare],by rw [List.map_append,h];rfl,rfl⟩
theorem end_kind (us:List Tok) (l c:Int):(tokAt (us++[endT l c]) us.length).kind=4:=by
 unfold tokAt;rw [List.getD_eq_getElem?_getD,List.getElem?_append_right (Nat.le_refl _),Nat.sub_self];rfl
theorem text_back {l:List St} (h:rightS 40 l=true) (hok:okSs l) (hlen:(linesW [] l).length≤16384):parseS (linesW [] l)=.ok l:=by
 have hS:=shp_right 40 l h hok;obtain ⟨us,a,c,h1,h2⟩:=lexed (lx_lines l (fun s hs=>lx_stmt (hS s hs)) [] [] (fun b hb=>by cases hb));unfold parseS;rw [lexS_eq,if_neg (by omega),h1];have hlen2:us.length=(toksTs l).length:=by rw [← h2,List.length_map]
 have:=all_back (l:=us++[endT a c]) (d:=40) (by omega) l [] 0 ((us++[endT a c]).length+1) hS (seg_all h2) (by rw [Nat.zero_add,← hlen2];exact end_kind us a c) (by omega);simp only;rw [this];rfl
/-! expressions -/
inductive ParX where
  | ok (x : Ex)
  | err (line col code : Int)
def readE (l : List Tok) : PR Ex := (exprT l 0 0 1).andThen fun x j => if (tokAt l j).kind = 4 then .ok x j else .err j 120
def parseX (src : List UInt8) : ParX :=
  match lexS src with
  | .err a b c => .err a b c
  | .ok l => match readE l with
    | .ok x _ => .ok x
    | .err i c => .err (tokAt l i).line (tokAt l i).col c
theorem parsed_expr {s:List UInt8} {ks:List BK} {x:Ex} (hl:Lx s ks []) (hlen:s.length≤16384) (hE:∀ l,Seg l 0 ks→(tokAt l ks.length).kind=4→exprT l 0 0 1=.ok x ks.length):parseX s=.ok x:=by
 obtain ⟨us,a,c,h1,h2⟩:=lexed hl;have hlen2:us.length=ks.length:=by rw [← h2,List.length_map]
 have h4:(tokAt (us++[endT a c]) ks.length).kind=4:=by rw [← hlen2];exact end_kind us a c
 unfold parseX;rw [lexS_eq,if_neg (by omega),h1];simp only [readE];rw [hE _ (seg_all h2) h4];simp only [PR.andThen,if_pos h4]
theorem strong_end {l:List Tok} {i:Nat} (h:(tokAt l i).kind=4):strongAt l i=0:=by
 unfold strongAt signAt;rw [h];rfl
theorem expr_back {x:Ex} {d:Nat} (h:Shp d x) (hd:d≤40) (hlen:(writeE x).length≤16384):parseX (writeE x)=.ok x:=by
 refine parsed_expr ((lx_expr h).1 [] rfl) hlen fun l hs h4=>?_
 have e0:0+(toksE x).length=(toksE x).length:=Nat.zero_add _;have:=exprT_zero (back_main l h) (i:=0) (o:=0) hs (by rw [e0];exact strong_end h4) (by omega);rw [this,e0]
end Go.Proofs.YtoaojdobjinhfaaGreatDoor
