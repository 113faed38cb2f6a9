/- Which trees can be written (P12.3), as functions. Plain mathematics. -/
import Derived.Test.YtdhikpkecmaplaaGreatDoorBackSMk
set_option linter.unusedSimpArgs false
set_option linter.unusedVariables false
namespace Go.Proofs.YtdhikpkecmaplaaGreatDoor
theorem zmW (n:Int) (name:List UInt8) (len:Nat):zbN 1 n name len=(decide (len=0) && (decide (name=[]) && decide (0<=n))):=by simp [zbN,zb9]
theorem zmX (n:Int) (name:List UInt8) (len:Nat):zbN 2 n name len=(decide (len=0) && (zaP name && decide (n=0))):=by simp [zbN,zb9]
theorem zmY (n:Int) (name:List UInt8) (len:Nat):zbN 3 n name len=(decide (len=1) && (decide (name=[]) && decide (1<=n/\n<=10))):=by simp [zbN,zb9]
theorem zmZ (n:Int) (name:List UInt8) (len:Nat):zbN 4 n name len=(decide (len=0) && (decide (name=[]) && decide (n=0))):=by simp [zbN,zb9]
theorem zm0 (n:Int) (name:List UInt8) (len:Nat):zbN 5 n name len=(decide (len=0) && (decide (name=[]) && decide (n=0))):=by simp [zbN,zb9]
theorem zm1 (op n:Int) (name:List UInt8) (len:Nat) (h1:6<=op) (h2:op<=9):zbN op n name len=(decide (len=1) && (decide (name=[]) && decide (n=0))):=by
 unfold zbN zb9;rw [decide_eq_true (show 1<=op/\op<=24 by omega),yP (show op < 10 by omega),yN (by omega),yN (by omega),yN (by omega),yN (by omega),Bool.true_and]
theorem zjA (op n:Int) (name:List UInt8) (len:Nat) (h1:10<=op) (h2:op<=24):zbN op n name len=(decide (len=2) && (decide (name=[]) && decide (n=0))):=by
 unfold zbN zb9;rw [decide_eq_true (show 1<=op/\op<=24 by omega),yN (by omega),yN (by omega),yN (by omega),yN (by omega),Bool.true_and]
theorem zee (op n:Int) (name:List UInt8) (le lb ll:Nat) (h1:1<=op) (h2:op<=2):zbA op n name le lb ll=(decide (le=1) && (zaP name && (decide (n=0) && (decide (lb=0) && decide (ll=0))))):=by
 unfold zbA zfg;rw [decide_eq_true (show 1<=op/\op<=7 by omega),yN (by omega),yN (by omega),yP h2,yN (by omega),Bool.true_and];have e1:decide (lb=0∨op=4∨op=5)=decide (lb=0):=by rw [Bool.eq_iff_iff,yQ,yQ];omega
 have e2:decide (ll=0∨op=4)=decide (ll=0):=by rw [Bool.eq_iff_iff,yQ,yQ];omega
 rw [e1,e2]
theorem zfo (op n:Int) (name:List UInt8) (le lb ll:Nat) (h:op=3):zbA op n name le lb ll=(decide (le=2) && (decide (name=[]) && (decide (1<=n/\n<=10) && (decide (lb=0) && decide (ll=0))))):=by
 unfold zbA zfg;rw [decide_eq_true (show 1<=op/\op<=7 by omega),yP h,yN (by omega),yP h,Bool.true_and];have e1:decide (lb=0∨op=4∨op=5)=decide (lb=0):=by rw [Bool.eq_iff_iff,yQ,yQ];omega
 have e2:decide (ll=0∨op=4)=decide (ll=0):=by rw [Bool.eq_iff_iff,yQ,yQ];omega
 rw [e1,e2]
theorem zfp (op n:Int) (name:List UInt8) (le lb ll:Nat) (h:op=4):zbA op n name le lb ll=(decide (le=1) && (decide (name=[]) && (decide (n=0) && (true)))):=by
 unfold zbA zfg;rw [decide_eq_true (show 1<=op/\op<=7 by omega),yN (by omega),yN (by omega),yN (by omega),yN (by omega),Bool.true_and,decide_eq_true (show lb=0∨op=4∨op=5 from .inr (.inl h)),decide_eq_true (show ll=0∨op=4 from .inr h)];rfl
theorem zfq (op n:Int) (name:List UInt8) (le lb ll:Nat) (h:op=5):zbA op n name le lb ll=(decide (le=1) && (decide (name=[]) && (decide (n=0) && (decide (ll=0))))):=by
 unfold zbA zfg;have e2:decide (ll=0∨op=4)=decide (ll=0):=by rw [Bool.eq_iff_iff,yQ,yQ];omega
 rw [decide_eq_true (show 1<=op/\op<=7 by omega),yN (by omega),yN (by omega),yN (by omega),yN (by omega),Bool.true_and,decide_eq_true (show lb=0∨op=4∨op=5 from .inr (.inr h)),e2,Bool.true_and]
theorem zef (op n:Int) (name:List UInt8) (le lb ll:Nat) (h1:6<=op) (h2:op<=7):zbA op n name le lb ll=(decide (le=0) && (decide (name=[]) && (decide (n=0) && (decide (lb=0) && decide (ll=0))))):=by
 unfold zbA zfg;rw [decide_eq_true (show 1<=op/\op<=7 by omega),yN (by omega),yP (by omega),yN (by omega),yN (by omega),Bool.true_and];have e1:decide (lb=0∨op=4∨op=5)=decide (lb=0):=by rw [Bool.eq_iff_iff,yQ,yQ];omega
 have e2:decide (ll=0∨op=4)=decide (ll=0):=by rw [Bool.eq_iff_iff,yQ,yQ];omega
 rw [e1,e2]
open Go.RowKit
def zak (x : Ex) (least : Nat) : List UInt8 := match x with | .mk op _ _ _ => zaN (zar op, zab x) least
def zdM (els : List St) : Bool := match els with | [.mk op _ _ _ _ _] => op == 4 | _ => false
mutual
def oneW (tabs : List UInt8) : St -> List UInt8
  | .mk op n name es body els =>
    let e0 := match es with | x :: _ => zab x | [] => []
    let e1 := match es with | _ :: x :: _ => zab x | _ => []
    if op = 1 then [108, 101, 116, 32] ++ name ++ [32, 61, 32] ++ e0 ++ [59]
    else if op = 2 then name ++ [32, 61, 32] ++ e0 ++ [59]
    else if op = 3 then kindWords.getD (n - 1).toNat [] ++ [91] ++ e0 ++ [93, 32, 61, 32] ++ e1 ++ [59]
    else if op = 6 then [115, 116, 111, 112, 59]
    else if op = 7 then [102, 97, 105, 108, 59]
    else
      let block := [40] ++ e0 ++ [41, 32, 123, 10] ++ zaM (tabs ++ [9]) body ++ tabs ++ [125]
      if op = 5 then [119, 104, 105, 108, 101, 32] ++ block
      else match els with
        | [] => [105, 102, 32] ++ block
        | x :: r => if zdM (x :: r) = true then [105, 102, 32] ++ block ++ [32, 101, 108, 115, 101, 32] ++ oneW tabs x
          else [105, 102, 32] ++ block ++ [32, 101, 108, 115, 101, 32, 123, 10] ++ zaM (tabs ++ [9]) (x :: r) ++ tabs ++ [125]
def zaM (tabs : List UInt8) : List St -> List UInt8
  | [] => []
  | x :: r => tabs ++ oneW tabs x ++ [10] ++ zaM tabs r
end
def zdN (s : List UInt8) : List UInt8 × Int := if 16384 < s.length then ([], 3) else (s, 0)
theorem zbZ (x:Ex) (r:List Ex):zfc (x :: r)=(zat x,zae x) :: zfc r:=by
 cases x;simp only [zfc,zae,zat,opE]
theorem zbQ (x:Ex) (r:List Ex):zel (x :: r)=(zat x,zab x) :: zel r:=by
 cases x;simp only [zel,zab,zat,opE]

theorem len0 {α:Type} {l:List α} (h:l.length=0):l=[]:=List.eq_nil_of_length_eq_zero h
theorem len1 {α:Type} {l:List α} (h:l.length=1):∃ a,l=[a]:=List.length_eq_one_iff.1 h
theorem len2 {α:Type} {l:List α} (h:l.length=2):∃ a b,l=[a,b]:=by
 match l,h with
 | [a,b],_=>exact ⟨a,b,rfl⟩
theorem zfB:∀ (d:Nat) (x:Ex),zbd d x=true->okE x->Shp d x:=by
 intro d
 induction d with
 | zero=>intro x h;cases x;simp [zbd] at h
 | succ d ih =>
  intro x h hok;obtain ⟨op,n,name,args⟩:=x;simp only [zbd,yC] at h;obtain ⟨hh,ha⟩:=h;rw [List.all_eq_true] at ha;obtain ⟨-,hn,-,hargs⟩:=hok
  have hop:1<=op/\op<=24:=by
   unfold zbN at hh;rw [yC,yQ] at hh;exact hh.1
  have hsub:∀ a ∈ args,Shp d a:=by
   intro a hm;refine ih a (ha a hm) ?_;clear ha hh ih
   induction args with
   | nil=>cases hm
   | cons y r ihr =>
    rcases List.mem_cons.1 hm with rfl | hm
    ·exact hargs.1
    ·exact ihr hargs.2 hm
  have cases5:op=1∨op=2∨op=3∨(op=4∨op=5)∨((op=6∨op=9)∨(op=7∨op=8))∨(10<=op/\op<=22)∨(op=23∨op=24):=by omega
  rcases cases5 with rfl | rfl | rfl | h | h | ⟨h1,h2⟩ | h
  ·rw [zmW] at hh;simp only [yC,yQ] at hh;obtain ⟨hl,rfl,h0⟩:=hh;rw [len0 hl];exact .num h0 hn.2
  ·rw [zmX] at hh;simp only [yC,yQ] at hh;obtain ⟨hl,hnm,rfl⟩:=hh;rw [len0 hl];exact .var hnm
  ·rw [zmY] at hh;simp only [yC,yQ] at hh;obtain ⟨hl,rfl,h1,h2⟩:=hh;obtain ⟨a,rfl⟩:=len1 hl;exact .comp h1 h2 (hsub a (by simp))
  ·have hh2:zbN op n name args.length=(decide (args.length=0) && (decide (name=[]) && decide (n=0))):=by rcases h with rfl | rfl;exact zmZ _ _ _;exact zm0 _ _ _
   rw [hh2] at hh;simp only [yC,yQ] at hh;obtain ⟨hl,rfl,rfl⟩:=hh;rw [len0 hl];exact .leaf h
  ·rw [zm1 _ _ _ _ (by omega) (by omega)] at hh;simp only [yC,yQ] at hh;obtain ⟨hl,rfl,rfl⟩:=hh;obtain ⟨a,rfl⟩:=len1 hl;rcases h with h | h
   ·exact .call h (hsub a (by simp))
   ·exact .pre h (hsub a (by simp))
  ·rw [zjA _ _ _ _ (by omega) (by omega)] at hh;simp only [yC,yQ] at hh;obtain ⟨hl,rfl,rfl⟩:=hh;obtain ⟨a,b,rfl⟩:=len2 hl;exact .bin h1 h2 (hsub a (by simp)) (hsub b (by simp))
  ·rw [zjA _ _ _ _ (by omega) (by omega)] at hh;simp only [yC,yQ] at hh;obtain ⟨hl,rfl,rfl⟩:=hh;obtain ⟨a,b,rfl⟩:=len2 hl;exact .two h (hsub a (by simp)) (hsub b (by simp))

theorem zjP {l:List Tok} {i:Nat} {s:List UInt8} (h:(zaa l i).bare=wK s) (u:List UInt8):isS l i u=decide (s=u):=by
 obtain ⟨h1,h2,-⟩:=zcp h;unfold isS;rw [h1,h2];simp
theorem is_nK {l:List Tok} {i:Nat} {n:Int} (h:(zaa l i).bare=nK n) (u:List UInt8):isS l i u=decide (Lib.decDigits n.toNat=u):=by
 obtain ⟨h1,h2,-⟩:=zcp h;unfold isS;rw [h1,h2];simp
theorem Follow.cmp {s:Nat} (h:Follow 3 s):s≠3:=by
 rintro rfl;rcases h with h | h
 ·omega
 ·exact absurd h (by decide)

theorem zjQ {l:List Tok} {E:Nat->Nat->Nat->PR Ex} {i o j k:Nat} {a b:List UInt8} {x y:Ex} (h:isS l i a=true) (ho:o < 200) (hE:E (i+1) (o+1) 1=.ok x j) (hj:isS l j [44]=true) (hE2:E (j+1) (o+1) 1=.ok y k) (hk:isS l k b=true):zad l E i o a b 2=.ok [x,y] (k+1):=by
 unfold zad;rw [zhM h ho];simp only [PR.andThen,zav,if_true,hE,hj,hE2,hk];simp
theorem zgU (n:Int) (h0:1<=n) (h1:n<=10):(zap (kindWords.getD (n - 1).toNat []):Int)=n/\za4 (kindWords.getD (n - 1).toNat [])=true:=by
 obtain ⟨k,rfl⟩:∃ k:Fin 10,n=1+(k.val:Int):=⟨⟨(n - 1).toNat,by omega⟩,by show n=1+((n - 1).toNat:Int);omega⟩;revert k;decide +kernel
theorem zbG {s:List UInt8} (h:zaP s=true):za4 s=true/\zap s=0/\zai s keyWords 0=0:=by
 unfold zaP at h;simp only [yC,yQ] at h;exact ⟨h.1.1,h.1.2,h.2⟩
theorem zfC {s u:List UInt8}:∀ {l:List (List UInt8)} {k:Nat},zai s l k=0->u ∈ l->s≠u:=by
 intro l
 induction l with
 | nil=>intro k _ hu;cases hu
 | cons x r ih =>
  intro k h hu e;rw [zai] at h;split at h
  ·omega
  ·rename_i hx
   rcases List.mem_cons.1 hu with rfl | hu
   ·exact hx e.symm
   ·exact ih h hu e
theorem zjR {s:List UInt8}:∀ {l:List (List UInt8)} {k:Nat},(∀ u ∈ l,s≠u)->zai s l k=0:=by
 intro l
 induction l with
 | nil=>intro k _;rfl
 | cons x r ih =>
  intro k h;rw [zai,yN (fun e=>h x (by simp) e.symm)];exact ih fun u hu=>h u (List.mem_cons_of_mem _ hu)
theorem zk0 {s:List UInt8} (h:zaP s=true):zai s zoa 0=0/\s≠[116,105,99,107]/\s≠[115,101,108,102]:=by
 obtain ⟨-,-,h3⟩:=zbG h;refine ⟨zjR fun u hu=>zfC h3 ?_,zfC h3 (by decide),zfC h3 (by decide)⟩;revert u;decide
theorem zmU (x:Ex):zat x<=6:=by
 unfold zat;by_cases h:10<=opE x/\opE x<=22
 ·have:=zdE h.1 h.2;omega
 ·rw [zhK h];omega
theorem zhO (n:Int):zae (.mk 1 n [] [])=[nK n]:=rfl
theorem zhP (s:List UInt8):zae (.mk 2 0 s [])=[wK s]:=rfl
theorem zgV (n:Int) (a:Ex):zae (.mk 3 n [] [a])=zcF (kindWords.getD (n - 1).toNat []) [91] [93] (zae a):=by
 simp only [zae,zbZ];rfl
theorem zgW (a:Ex):zae (.mk 6 0 [] [a])=zcF [114,97,110,100] [40] [41] (zae a):=by
 simp only [zae,zbZ];rfl
theorem zhQ (a:Ex):zae (.mk 9 0 [] [a])=zcF [97,98,115] [40] [41] (zae a):=by
 simp only [zae,zbZ];rfl
theorem zhR (a:Ex):zae (.mk 7 0 [] [a])=sK [45] :: zbE (zat a,zae a) 6:=by
 simp only [zae,zbZ];rfl
theorem zhS (a:Ex):zae (.mk 8 0 [] [a])=sK [33] :: zbE (zat a,zae a) 6:=by
 simp only [zae,zbZ];rfl
theorem zhT (a b:Ex):zae (.mk 23 0 [] [a,b])=zdt [109,105,110] (zae a) (zae b):=by
 simp only [zae,zbZ];rfl
theorem zhU (a b:Ex):zae (.mk 24 0 [] [a,b])=zdt [109,97,120] (zae a) (zae b):=by
 simp only [zae,zbZ];rfl
theorem zhV {op:Int} (h0:10<=op) (h1:op<=22) (a b:Ex):zae (.mk op 0 [] [a,b])=zbE (zat a,zae a) (zby (zar op))++sK (zaO op) :: zbE (zat b,zae b) (zar op+1):=by
 have:=zdE h0 h1;simp only [zae,zbZ];unfold zhI;rw [yP (by omega)];rfl

theorem Back.inside2 {l:List Tok} {d:Nat} {x y:Ex} (h:Back l d x) (h':Back l d y) {i o f:Nat} (hs:Seg l i (sK [40] :: (zae x++sK [44] :: (zae y++[sK [41]])))) (ho:o+2 * d < 200) (hf:l.length+1 - i<=f+1):zad l (zaw l f) i o [40] [41] 2=.ok [x,y] (i+(zae x).length+(zae y).length+3):=by
 obtain ⟨h1,hlt⟩:=hs.at;obtain ⟨h2,h3⟩:=hs.tail.app;obtain ⟨h4,hlt4⟩:=h3.at;obtain ⟨h5,h6⟩:=h3.tail.app;obtain ⟨h7,hlt7⟩:=h6.at;have e1:isS l i [40]=true:=by rw [zcb h1];simp
 have e4:isS l (i+1+(zae x).length) [44]=true:=by rw [zcb h4];simp
 have e7:isS l (i+1+(zae x).length+1+(zae y).length) [41]=true:=by rw [zcb h7];simp
 rw [zjQ e1 (by omega) (h.zero h2 (zfd h4 (by decide)) (by omega) (by omega)) e4 (h'.zero h5 (zfd h7 (by decide)) (by omega) (by omega)) e7];congr 1
 omega
theorem zhW {s:List UInt8} (h:za4 s=true):s≠[45]/\s≠[33]/\s≠[40]:=by
 refine ⟨?_,?_,?_⟩ <;> (rintro rfl;exact absurd h (by decide +kernel))
theorem zjS (n:Nat) (hn:n<=9223372036854775807):Lib.decDigits n≠[45]/\Lib.decDigits n≠[33]:=by
 have h:=(zdW n hn).2.2.2.2;constructor
 ·intro e;rw [e] at h;exact absurd (h 45 (by simp)) (by decide)
 ·intro e;rw [e] at h;exact absurd (h 33 (by simp)) (by decide)
theorem zcW {l:List Tok} {E:Nat->Nat->Nat->PR Ex} {f i o:Nat} {s:List UInt8} (h:(zaa l i).bare=wK s) (hw:za4 s=true):zas l E (f+1) i o=zah l E i o:=by
 obtain ⟨h1,h2,-⟩:=zhW hw;exact zeo (by rw [zjP h];exact decide_eq_false h1) (by rw [zjP h];exact decide_eq_false h2)
theorem zci {l:List Tok} {E:Nat->Nat->Nat->PR Ex} {i o:Nat} {s:List UInt8} (h:(zaa l i).bare=wK s) (hw:za4 s=true):zah l E i o =
  if 0 < zap s then (zad l E (i+1) o [91] [93] 1).map (.mk 3 (zap s) [])
  else if 0 < zai s zoa 0 then (zad l E (i+1) o [40] [41] (if zai s zoa 0<=2 then 1 else 2)).map (.mk (callOps.getD (zai s zoa 0) 0) 0 [])
  else if s=[116,105,99,107] then .ok (.mk 4 0 [] []) (i+1)
  else if s=[115,101,108,102] then .ok (.mk 5 0 [] []) (i+1)
  else if zaP s=false then .err i 120
  else .ok (.mk 2 0 s []) (i+1):=by
 obtain ⟨h1,h2,-⟩:=zcp h;have h3:=(zhW hw).2.2;unfold zah;rw [h1,yN (by decide),zjP h,yN (by simpa using h3),yN (by decide),h2]
theorem zf1 {l:List Tok} {d:Nat} {a:Ex} (h:Back l d a) {w:List UInt8} (hw:za4 w=true) (hk:zap w=0) {k:Nat} (hp:zai w zoa 0=k) (hk1:1<=k) (hk2:k<=2) {op:Int} (hop:callOps.getD k 0=op) (ht:zae (.mk op 0 [] [a])=zcF w [40] [41] (zae a)):zf0 l (d+1) (.mk op 0 [] [a]):=by
 intro i o f hs ho hf;rw [ht] at hs ⊢;obtain ⟨h1,hlt⟩:=hs.at;obtain ⟨g,hg⟩:∃ g,l.length+1 - i=g+1:=⟨l.length - i,by omega⟩;rw [hg,zcW h1 hw,zci h1 hw,yN (by omega),hp,yP (by omega),yP hk2,hop,h.inside hs.tail (by decide) (by omega) (by omega)];show PR.ok _ _=_;congr 1
 simp only [zcF,yB,yA,yL];omega
theorem zf2 {l:List Tok} {d:Nat} {a b:Ex} (h:Back l d a) (h':Back l d b) {w:List UInt8} (hw:za4 w=true) (hk:zap w=0) {k:Nat} (hp:zai w zoa 0=k) (hk1:3<=k) {op:Int} (hop:callOps.getD k 0=op) (ht:zae (.mk op 0 [] [a,b])=zdt w (zae a) (zae b)):zf0 l (d+1) (.mk op 0 [] [a,b]):=by
 intro i o f hs ho hf;rw [ht] at hs ⊢;obtain ⟨h1,hlt⟩:=hs.at;obtain ⟨g,hg⟩:∃ g,l.length+1 - i=g+1:=⟨l.length - i,by omega⟩;rw [hg,zcW h1 hw,zci h1 hw,yN (by omega),hp,yP (by omega),yN (by omega),hop,h.inside2 h' hs.tail (by omega) (by omega)];show PR.ok _ _=_;congr 1
 simp only [zdt,yB,yA,yL];omega
theorem zhX {l:List Tok} {d:Nat} {a:Ex} (h:Back l d a) {s:List UInt8} {op:Int} (hs0:(s=[45]/\op=7)∨(s=[33]/\op=8)) (ht:zae (.mk op 0 [] [a])=sK s :: zbE (zat a,zae a) 6):zf0 l (d+1) (.mk op 0 [] [a]):=by
 intro i o f hs ho hf;rw [ht] at hs ⊢;obtain ⟨h1,hlt⟩:=hs.at;have hs1:=hs.tail;obtain ⟨g,hg⟩:∃ g,l.length+1 - i=g+1:=⟨l.length - i,by omega⟩;have hg2:l.length+1 - (i+1)=g:=by omega
 have hu:zas l (zaw l f) g (i+1) (o+1)=.ok a (i+1+(zbE (zat a,zae a) 6).length):=by
  rw [zjt] at hs1 ⊢;by_cases hb:zat a < 6
  ·rw [yP hb] at hs1 ⊢;obtain ⟨-,hlt1⟩:=hs1.at;obtain ⟨g',rfl⟩:∃ g',g=g'+1:=⟨g - 1,by omega⟩;exact h.paren hs1 (by omega) (by omega)
  ·rw [yN hb] at hs1 ⊢;have:=zmU a;have:=h.2 (by omega) (i+1) (o+1) f hs1 (by omega) (by omega);rw [hg2] at this;exact this
 have h0:¬ (isS l i [45]=false/\isS l i [33]=false):=by
  rw [zcb h1,zcb h1];rcases hs0 with ⟨rfl,-⟩ | ⟨rfl,-⟩ <;> decide
 rw [hg,zas,yN h0,yN (by omega),hu];show PR.ok _ _=_
 have e:(if isS l i [33]=true then (8:Int) else 7)=op:=by
  rw [zcb h1];rcases hs0 with ⟨rfl,rfl⟩ | ⟨rfl,rfl⟩ <;> rfl
 rw [e];congr 1
 simp only [yB];omega
theorem zeO (l:List Tok):∀ {d:Nat} {x:Ex},Shp d x->Back l d x:=by
 intro d x h
 induction h with
 | @num d n h0 h1 =>
  refine .of_unary fun i o f hs ho hf=>?_
  rw [zhO] at hs ⊢;obtain ⟨k1,hlt⟩:=hs.at;obtain ⟨g,hg⟩:∃ g,l.length+1 - i=g+1:=⟨l.length - i,by omega⟩;have hd:=zjS n.toNat (by omega);rw [hg,zeo (by rw [is_nK k1];exact decide_eq_false hd.1) (by rw [is_nK k1];exact decide_eq_false hd.2)];obtain ⟨e1,-,e3⟩:=zcp k1;unfold zah;rw [yP e1,e3]
  rfl
 | @var d name h =>
  refine .of_unary fun i o f hs ho hf=>?_
  rw [zhP] at hs ⊢;obtain ⟨k1,hlt⟩:=hs.at;obtain ⟨g,hg⟩:∃ g,l.length+1 - i=g+1:=⟨l.length - i,by omega⟩;obtain ⟨n1,n2,n3⟩:=zbG h;obtain ⟨c1,c2,c3⟩:=zk0 h;rw [hg,zcW k1 n1,zci k1 n1,yN (by omega),yN (by omega),yN c2,yN c3,yN (by rw [h];decide)]
  rfl
 | @comp d n a h0 h1 h ih =>
  refine .of_unary fun i o f hs ho hf=>?_
  rw [zgV] at hs ⊢;obtain ⟨k1,hlt⟩:=hs.at;obtain ⟨g,hg⟩:∃ g,l.length+1 - i=g+1:=⟨l.length - i,by omega⟩;obtain ⟨n1,n2⟩:=zgU n h0 h1;rw [hg,zcW k1 n2,zci k1 n2,yP (by omega),ih.inside hs.tail (by decide) (by omega) (by omega),n1];show PR.ok _ _=_;congr 1
  simp only [zcF,yB,yA,yL]
  omega
 | @leaf d op h =>
  refine .of_unary fun i o f hs ho hf=>?_
  obtain ⟨w,hw,hk,hc,ht,hr⟩:∃ w,za4 w=true/\zap w=0/\zai w zoa 0=0/\zae (.mk op 0 [] [])=[wK w]/\(if w=[116,105,99,107] then PR.ok (Ex.mk 4 0 [] []) (i+1) else if w=[115,101,108,102] then .ok (Ex.mk 5 0 [] []) (i+1) else if zaP w=false then .err i 120 else .ok (Ex.mk 2 0 w []) (i+1))=PR.ok (Ex.mk op 0 [] []) (i+1):=by
   rcases h with rfl | rfl
   ·exact ⟨[116,105,99,107],by decide +kernel,by decide +kernel,by decide +kernel,rfl,rfl⟩
   ·exact ⟨[115,101,108,102],by decide +kernel,by decide +kernel,by decide +kernel,rfl,rfl⟩
  rw [ht] at hs ⊢;obtain ⟨k1,hlt⟩:=hs.at;obtain ⟨g,hg⟩:∃ g,l.length+1 - i=g+1:=⟨l.length - i,by omega⟩;rw [hg,zcW k1 hw,zci k1 hw,yN (by omega),yN (by omega)]
  exact hr
 | @call d op a ho' h ih =>
  rcases ho' with rfl | rfl
  ·exact .of_unary (zf1 ih (w:=[114,97,110,100]) (by decide +kernel) (by decide +kernel) (k:=1) (by decide +kernel) (by omega) (by omega) (by decide) (zgW a))
  ·exact .of_unary (zf1 ih (w:=[97,98,115]) (by decide +kernel) (by decide +kernel) (k:=2) (by decide +kernel) (by omega) (by omega) (by decide) (zhQ a))
 | @pre d op a ho' h ih =>
  rcases ho' with rfl | rfl
  ·exact .of_unary (zhX ih (.inl ⟨rfl,rfl⟩) (zhR a))
  ·exact .of_unary (zhX ih (.inr ⟨rfl,rfl⟩) (zhS a))
 | @two d op a b ho' ha hb iha ihb =>
  rcases ho' with rfl | rfl
  ·exact .of_unary (zf2 iha ihb (w:=[109,105,110]) (by decide +kernel) (by decide +kernel) (k:=3) (by decide +kernel) (by omega) (by decide) (zhT a b))
  ·exact .of_unary (zf2 iha ihb (w:=[109,97,120]) (by decide +kernel) (by decide +kernel) (k:=4) (by decide +kernel) (by omega) (by decide) (zhU a b))
 | @bin d op a b h0 h1 ha hb iha ihb =>
  obtain ⟨s1,s2,s3,s4⟩:=zdE h0 h1;have hbe:zat (.mk op 0 [] [a,b])=zar op:=rfl;refine ⟨fun i o q f hq hs hF ho hf=>?_,fun h6=>by rw [hbe] at h6;omega⟩;rw [hbe] at hq hF;rw [zhV h0 h1] at hs hF ⊢;obtain ⟨g1,g2⟩:=hs.app;obtain ⟨k1,hlt⟩:=g2.at;have g3:=g2.tail;have hle:=g3.le;have st:=zeN k1;rw [s2] at st;have ra:=iha.part (q:=q) (o:=o) (f:=f) (by have:=zhL (zar op);omega) g1 (by rw [st.2];exact .inr (zr _)) (by omega) hf
  have elen:i+(zbE (zat a,zae a) (zby (zar op))++sK (zaO op) :: zbE (zat b,zae b) (zar op+1)).length=i+(zbE (zat a,zae a) (zby (zar op))).length+1+(zbE (zat b,zae b) (zar op+1)).length:=by
   rw [yA,yB];omega
  rw [elen] at hF ⊢;have hb3:=ihb.part (q:=zar op+1) (o:=o) (f:=f - 1) (zr _) g3 (hF.mono (by omega)) (by omega) (by omega);obtain ⟨f',rfl⟩:∃ f',f=f'+1:=⟨f - 1,by omega⟩;have eb:=hb3.done (by omega) hle (by have:=hF.lt;omega);rw [Nat.add_sub_cancel] at eb;unfold Reads at ra ⊢;rw [ra]
  generalize (zbE (zat a,zae a) (zby (zar op))).length=na at *
  generalize (zbE (zat b,zae b) (zar op+1)).length=nb at *
  obtain ⟨m,hm⟩:∃ m,l.length+1 - (i+na)=m+1:=⟨l.length - (i+na),by omega⟩;rw [hm,zaD,yN (by rw [st.2];omega),st.2,eb]
  have h3:¬ (zar op=3/\zaj l (i+na+1+nb)=3):=by
   rintro ⟨h3,h4⟩;rw [h3] at hF;exact hF.cmp h4
  simp only [PR.andThen];rw [yN h3,st.1,s1];exact ze2 (zdc l _) (zc3 l _) _ _ _ _ _ _ (by omega) (zr _) hle
mutual
def toksT : St -> List BK
  | .mk op n name es body els =>
    let e0 := match es with | x :: _ => zae x | [] => []
    let e1 := match es with | _ :: x :: _ => zae x | _ => []
    if op = 1 then wK [108, 101, 116] :: wK name :: sK [61] :: (e0 ++ [sK [59]])
    else if op = 2 then wK name :: sK [61] :: (e0 ++ [sK [59]])
    else if op = 3 then wK (kindWords.getD (n - 1).toNat []) :: sK [91] :: (e0 ++ sK [93] :: sK [61] :: (e1 ++ [sK [59]]))
    else if op = 6 then [wK [115, 116, 111, 112], sK [59]]
    else if op = 7 then [wK [102, 97, 105, 108], sK [59]]
    else
      let block := sK [40] :: (e0 ++ sK [41] :: sK [123] :: (toksTs body ++ [sK [125]]))
      if op = 5 then wK [119, 104, 105, 108, 101] :: block
      else match els with
        | [] => wK [105, 102] :: block
        | x :: r => if zdM (x :: r) = true then wK [105, 102] :: (block ++ wK [101, 108, 115, 101] :: toksT x)
          else wK [105, 102] :: (block ++ wK [101, 108, 115, 101] :: sK [123] :: (toksTs (x :: r) ++ [sK [125]]))
def toksTs : List St -> List BK
  | [] => []
  | x :: r => toksT x ++ toksTs r
end
def opT : St -> Int | .mk op _ _ _ _ _ => op
inductive ShpT : Nat -> St -> Prop
  | letS {d : Nat} {name : List UInt8} {e : Ex} (h : zaP name = true) (he : Shp 40 e) : ShpT (d + 1) (.mk 1 0 name [e] [] [])
  | setS {d : Nat} {name : List UInt8} {e : Ex} (h : zaP name = true) (he : Shp 40 e) : ShpT (d + 1) (.mk 2 0 name [e] [] [])
  | putS {d : Nat} {n : Int} {e e' : Ex} (h0 : 1 <= n) (h1 : n <= 10) (he : Shp 40 e) (he' : Shp 40 e') : ShpT (d + 1) (.mk 3 n [] [e, e'] [] [])
  | stopS {d : Nat} {op : Int} (h : op = 6 ∨ op = 7) : ShpT (d + 1) (.mk op 0 [] [] [] [])
  | whileS {d : Nat} {e : Ex} {body : List St} (he : Shp 40 e) (hb : ∀ s ∈ body, ShpT d s) : ShpT (d + 1) (.mk 5 0 [] [e] body [])
  | ifS {d : Nat} {e : Ex} {body els : List St} (he : Shp 40 e) (hb : ∀ s ∈ body, ShpT d s) (hl : ∀ s ∈ els, ShpT d s) : ShpT (d + 1) (.mk 4 0 [] [e] body els)
theorem zl4 {l:List Ex} (h:okEs l):∀ x ∈ l,okE x:=by
 induction l with
 | nil=>intro x hx;cases hx
 | cons y r ih =>
  intro x hx;rcases List.mem_cons.1 hx with rfl | hx
  ·exact h.1
  ·exact ih h.2 x hx
theorem zl5 {l:List St} (h:okSs l):∀ x ∈ l,okS x:=by
 induction l with
 | nil=>intro x hx;cases hx
 | cons y r ih =>
  intro x hx;rcases List.mem_cons.1 hx with rfl | hx
  ·exact h.1
  ·exact ih h.2 x hx
theorem zk1:∀ (d:Nat) (l:List St),zaJ d l=true->okSs l->∀ s ∈ l,ShpT d s:=by
 intro d
 induction d with
 | zero=>intro l h _ s hs;cases l with
  | nil=>cases hs
  | cons x r=>simp [zaJ] at h
 | succ d ih =>
  intro l h hok s hs;rw [zfn,List.all_eq_true] at h;have h1:=h s hs;have ho:=zl5 hok s hs;obtain ⟨op,n,name,es,body,els⟩:=s;simp only [zh2,yC] at h1;obtain ⟨⟨hb,hl⟩,hh,he⟩:=h1;obtain ⟨-,-,-,oE,oB,oL⟩:=ho;have hB:=ih body hb oB;have hL:=ih els hl oL;rw [List.all_eq_true] at he;have hE:∀ x ∈ es,Shp 40 x:=fun x hx=>zfB 40 x (he x hx) (zl4 oE x hx)
  have hop:1<=op/\op<=7:=by
   unfold zbA at hh;rw [yC,yQ] at hh;exact hh.1
  have c:(1<=op/\op<=2)∨op=3∨op=4∨op=5∨(6<=op/\op<=7):=by omega
  rcases c with ⟨h1,h2⟩ | h | h | h | ⟨h1,h2⟩
  ·rw [zee _ _ _ _ _ _ h1 h2] at hh;simp only [yC,yQ] at hh;obtain ⟨a1,a2,rfl,a4,a5⟩:=hh;obtain ⟨e,rfl⟩:=len1 a1;rw [len0 a4,len0 a5];rcases (show op=1∨op=2 by omega) with rfl | rfl
   ·exact .letS a2 (hE e (by simp))
   ·exact .setS a2 (hE e (by simp))
  ·rw [zfo _ _ _ _ _ _ h] at hh;simp only [yC,yQ] at hh;obtain ⟨a1,rfl,a3,a4,a5⟩:=hh;obtain ⟨e,e',rfl⟩:=len2 a1;rw [len0 a4,len0 a5,h];exact .putS a3.1 a3.2 (hE e (by simp)) (hE e' (by simp))
  ·rw [zfp _ _ _ _ _ _ h] at hh;simp only [yC,yQ] at hh;obtain ⟨a1,rfl,rfl,-⟩:=hh;obtain ⟨e,rfl⟩:=len1 a1;rw [h];exact .ifS (hE e (by simp)) hB hL
  ·rw [zfq _ _ _ _ _ _ h] at hh;simp only [yC,yQ] at hh;obtain ⟨a1,rfl,rfl,a4⟩:=hh;obtain ⟨e,rfl⟩:=len1 a1;rw [len0 a4,h];exact .whileS (hE e (by simp)) hB
  ·rw [zef _ _ _ _ _ _ h1 h2] at hh;simp only [yC,yQ] at hh;obtain ⟨a1,rfl,rfl,a4,a5⟩:=hh;rw [len0 a1,len0 a4,len0 a5];exact .stopS (by omega)
theorem toks_let (name:List UInt8) (e:Ex):toksT (.mk 1 0 name [e] [] [])=wK [108,101,116] :: wK name :: sK [61] :: (zae e++[sK [59]]):=by rw [toksT];rfl
theorem toks_set (name:List UInt8) (e:Ex):toksT (.mk 2 0 name [e] [] [])=wK name :: sK [61] :: (zae e++[sK [59]]):=by rw [toksT];rfl
theorem toks_put (n:Int) (e e':Ex):toksT (.mk 3 n [] [e,e'] [] [])=wK (kindWords.getD (n - 1).toNat []) :: sK [91] :: (zae e++sK [93] :: sK [61] :: (zae e'++[sK [59]])):=by rw [toksT];rfl
theorem toks_stop:toksT (.mk 6 0 [] [] [] [])=[wK [115,116,111,112],sK [59]]:=by rw [toksT];rfl
theorem toks_fail:toksT (.mk 7 0 [] [] [] [])=[wK [102,97,105,108],sK [59]]:=by rw [toksT];rfl
def toksB (e : Ex) (body : List St) : List BK := sK [40] :: (zae e ++ sK [41] :: sK [123] :: (toksTs body ++ [sK [125]]))
theorem toks_while (e:Ex) (body:List St):toksT (.mk 5 0 [] [e] body [])=wK [119,104,105,108,101] :: toksB e body:=by rw [toksT];rfl
theorem toks_if0 (e:Ex) (body:List St):toksT (.mk 4 0 [] [e] body [])=wK [105,102] :: toksB e body:=by rw [toksT];rfl
theorem toks_ifi (e:Ex) (body:List St) (x:St) (hx:opT x=4):toksT (.mk 4 0 [] [e] body [x])=wK [105,102] :: (toksB e body++wK [101,108,115,101] :: toksT x):=by
 rw [toksT];have:zdM [x]=true:=by obtain ⟨op,_,_,_,_,_⟩:=x;exact decide_eq_true hx
 simp only [this,if_true];rfl
theorem toks_ife (e:Ex) (body:List St) (x:St) (r:List St) (hx:zdM (x :: r)=false):toksT (.mk 4 0 [] [e] body (x :: r))=wK [105,102] :: (toksB e body++wK [101,108,115,101] :: sK [123] :: (toksTs (x :: r)++[sK [125]])):=by
 rw [toksT];simp only [hx];rfl
theorem zjT {l:List Tok} {d:Nat} {x:Ex} (h:Back l d x) {i o:Nat} (hs:Seg l i (zae x)) (h0:zaj l (i+(zae x).length)=0) (ho:o+2 * d<=200):zaA l i o 1=.ok x (i+(zae x).length):=h.zero hs h0 ho (zr _)
theorem insideT_back {l:List Tok} {d:Nat} {x:Ex} (h:Back l d x) {i o:Nat} {a b:List UInt8} (hs:Seg l i (sK a :: (zae x++[sK b]))) (hb:zai b signWords 0=0) (ho:o+2 * d < 200):zad l (zaA l) i o a b 1=.ok [x] (i+(zae x).length+2):=by
 obtain ⟨h1,hlt⟩:=hs.at;obtain ⟨h2,h3⟩:=hs.tail.app;obtain ⟨h4,hlt4⟩:=h3.at;have e1:isS l i a=true:=by rw [zcb h1];simp
 have e4:isS l (i+1+(zae x).length) b=true:=by rw [zcb h4];simp
 rw [zfZ e1 (by omega) (zjT h h2 (zfd h4 hb) (by omega)) e4];congr 1
 omega
theorem value_back {l:List Tok} {d:Nat} {x:Ex} (h:Back l d x) {i o:Nat} (hs:Seg l i (sK [61] :: (zae x++[sK [59]]))) (ho:o+2 * d<=200):zaz l i o=.ok x (i+(zae x).length+2):=by
 obtain ⟨h1,hlt⟩:=hs.at;obtain ⟨h2,h3⟩:=hs.tail.app;obtain ⟨h4,hlt4⟩:=h3.at;unfold zaz;rw [zcb h1,yN (by decide),zjT h h2 (zfd h4 (by decide)) ho];simp only [PR.andThen];rw [zcb h4,yN (by decide)];congr 1
 omega
theorem begins_kind {n:Int} (h0:1<=n) (h1:n<=10):Begins (kindWords.getD (n - 1).toNat []):=by
 refine ⟨(zgU n h0 h1).2,?_⟩;obtain ⟨k,rfl⟩:∃ k:Fin 10,n=1+(k.val:Int):=⟨⟨(n - 1).toNat,by omega⟩,by show n=1+((n - 1).toNat:Int);omega⟩;revert k;decide
theorem begins_name {s:List UInt8} (h:zaP s=true):Begins s:=⟨(zbG h).1,zfC (zbG h).2.2 (by decide)⟩
theorem toksT_head {d:Nat} {s:St} (h:ShpT d s):∃ w r,toksT s=wK w :: r/\Begins w/\(opT s=4->w=[105,102]):=by
 cases h with
 | letS h he=>exact ⟨_,_,toks_let _ _,⟨by decide +kernel,by decide⟩,fun h=>absurd h (by simp [opT])⟩
 | setS h he=>exact ⟨_,_,toks_set _ _,begins_name h,fun h=>absurd h (by simp [opT])⟩
 | putS h0 h1 he he'=>exact ⟨_,_,toks_put _ _ _,begins_kind h0 h1,fun h=>absurd h (by simp [opT])⟩
 | stopS h =>
  rcases h with rfl | rfl
  ·exact ⟨_,_,toks_stop,⟨by decide +kernel,by decide⟩,fun h=>absurd h (by simp [opT])⟩
  ·exact ⟨_,_,toks_fail,⟨by decide +kernel,by decide⟩,fun h=>absurd h (by simp [opT])⟩
 | whileS he hb=>exact ⟨_,_,toks_while _ _,⟨by decide +kernel,by decide⟩,fun h=>absurd h (by simp [opT])⟩
 | @ifS d e body els he hb hl =>
  have hi:Begins [105,102]:=⟨by decide +kernel,by decide⟩
  cases els with
  | nil=>exact ⟨_,_,toks_if0 _ _,hi,fun _=>rfl⟩
  | cons x r =>
   cases hx:zdM (x :: r) with
   | false=>exact ⟨_,_,toks_ife _ _ _ _ hx,hi,fun _=>rfl⟩
   | true =>
    cases r with
    | nil =>
     obtain ⟨op,n',nm,es,bb,ll⟩:=x;have:op=4:=of_decide_eq_true hx
     exact ⟨_,_,toks_ifi _ _ _ this,hi,fun _=>rfl⟩
    | cons y r=>simp [zdM] at hx
def elseW : List UInt8 := [101, 108, 115, 101]
def StB (l : List Tok) (d : Nat) (s : St) : Prop := ∀ (f i o : Nat), Seg l i (toksT s) -> isS l (i + (toksT s).length) elseW = false -> o + 2 * d + 82 <= 200 -> l.length - i <= f -> zan l f i o = .ok s (i + (toksT s).length)
def BrB (l : List Tok) (d : Nat) (s : St) : Prop := ∀ (f g i o : Nat), Seg l i (toksT s) -> isS l (i + (toksT s).length) elseW = false -> o + 2 * d + 82 <= 200 -> l.length - i <= f + 1 -> l.length - i <= g -> zau l (zan l f) g i o = .ok s (i + (toksT s).length)
theorem next_not {l:List Tok} {i:Nat} {d:Nat} {r:List St} (hr:∀ s ∈ r,ShpT d s) (h:Seg l i (toksTs r++[sK [125]])):isS l i elseW=false:=by
 cases r with
 | nil =>
  obtain ⟨h1,-⟩:=Seg.at (r:=[]) h;rw [zcb h1]
  decide
 | cons x r =>
  obtain ⟨w,t,ht,hb,-⟩:=toksT_head (hr x (by simp));rw [toksTs,ht] at h;obtain ⟨h1,-⟩:=Seg.at (r:=t++toksTs r++[sK [125]]) h;rw [zjP h1];exact decide_eq_false hb.2
theorem stmts_back {l:List Tok} {d f:Nat}:∀ (body xs:List St) (i o F:Nat),(∀ s ∈ body,ShpT d s)->(∀ s ∈ body,StB l d s)->Seg l i (toksTs body++[sK [125]])->l.length+1 - i<=F->l.length - i<=f->o+1+2 * d+82<=200 ->
  zaX l (zan l f) o F xs i=.ok (xs++body) (i+(toksTs body).length+1):=by
 intro body
 induction body with
 | nil =>
  intro xs i o F hb hB hs hF hf ho;obtain ⟨h1,hlt⟩:=Seg.at (r:=[]) hs;obtain ⟨F',rfl⟩:∃ F',F=F'+1:=⟨F - 1,by omega⟩;rw [zaX,zcb h1,yP (by decide),List.append_nil]
  rfl
 | cons x r ih =>
  intro xs i o F hb hB hs hF hf ho;rw [toksTs,List.append_assoc] at hs;obtain ⟨h1,h2⟩:=hs.app;obtain ⟨w,t,ht,hw,-⟩:=toksT_head (hb x (by simp));have h3:=h1;rw [ht] at h3;obtain ⟨k1,hlt⟩:=h3.at;obtain ⟨F',rfl⟩:∃ F',F=F'+1:=⟨F - 1,by omega⟩;have hr:∀ s ∈ r,ShpT d s:=fun s hs=>hb s (List.mem_cons_of_mem _ hs)
  rw [zaX,zjP k1,yN (by simpa using hw.not),hB x (by simp) f i (o+1) h1 (next_not hr h2) (by omega) hf];show zaX l (zan l f) o F' (xs++[x]) _=_;have hpos:1<=(toksT x).length:=by rw [ht];simp
  rw [ih (xs++[x]) _ o F' hr (fun s hs=>hB s (List.mem_cons_of_mem _ hs)) h2 (by omega) (by omega) ho,toksTs,yA,List.append_assoc];congr 1
  omega
theorem block_back {l:List Tok} {d f:Nat} {body:List St} {i o:Nat} (hb:∀ s ∈ body,ShpT d s) (hB:∀ s ∈ body,StB l d s) (hs:Seg l i (sK [123] :: (toksTs body++[sK [125]]))) (hf:l.length - i<=f+1) (ho:o+1+2 * d+82<=200):zaB l (zan l f) i o=.ok body (i+(toksTs body).length+2):=by
 obtain ⟨h1,hlt⟩:=hs.at;unfold zaB;rw [zhM (by rw [zcb h1];decide) (by omega)];show zaX l (zan l f) o (l.length+1 - (i+1)) [] (i+1)=_;rw [stmts_back body [] (i+1) o _ hb hB hs.tail (zr _) (by omega) ho];rw [List.nil_append];congr 1
 omega
theorem head_back {l:List Tok} {d f:Nat} {e:Ex} {body:List St} {i o:Nat} (he:Shp 40 e) (hb:∀ s ∈ body,ShpT d s) (hB:∀ s ∈ body,StB l d s) (hs:Seg l i (toksB e body)) (hf:l.length - i<=f) (ho:o+1+2 * d+82<=200) :
  zad l (zaA l) i o [40] [41] 1=.ok [e] (i+(zae e).length+2)/\zaB l (zan l f) (i+(zae e).length+2) o=.ok body (i+(toksB e body).length):=by
 have h1:Seg l i ((sK [40] :: (zae e++[sK [41]]))++(sK [123] :: (toksTs body++[sK [125]]))):=by
  have:(sK [40] :: (zae e++[sK [41]]))++(sK [123] :: (toksTs body++[sK [125]]))=toksB e body:=by simp [toksB]
  rw [this];exact hs
 obtain ⟨g1,g2⟩:=h1.app;have el:i+(sK [40] :: (zae e++[sK [41]])).length=i+(zae e).length+2:=by simp only [yB,yA,yL];omega
 rw [el] at g2;refine ⟨insideT_back (zeO l he) g1 (by decide) (by omega),?_⟩;rw [block_back hb hB g2 (by omega) ho];congr 1
 simp only [toksB,yB,yA,yL];omega
theorem stmt_back (l:List Tok):∀ {d:Nat} {s:St},ShpT d s->StB l d s/\(opT s=4->BrB l d s):=by
 intro d s h
 induction h with
 | @letS d name e h he =>
  refine ⟨fun f i o hs hel ho hf=>?_,fun h=>absurd h (by simp [opT])⟩;rw [toks_let] at hs ⊢;obtain ⟨k1,hlt⟩:=hs.at;obtain ⟨k2,hlt2⟩:=hs.tail.at;obtain ⟨g,rfl⟩:∃ g,f=g+1:=⟨f - 1,by omega⟩;obtain ⟨a1,a2,-⟩:=zcp k1;obtain ⟨b1,b2,-⟩:=zcp k2;rw [zan,a1,a2,b1,b2,yN (by decide),yN (by decide +kernel),yN (by decide),yN (by decide),yP rfl,yN (by rw [h];decide),value_back (zeO l he) hs.tail.tail (by omega)];show PR.ok _ _=_;congr 1
  simp only [yB,yA,yL]
  omega
 | @setS d name e h he =>
  refine ⟨fun f i o hs hel ho hf=>?_,fun h=>absurd h (by simp [opT])⟩;rw [toks_set] at hs ⊢;obtain ⟨k1,hlt⟩:=hs.at;obtain ⟨g,rfl⟩:∃ g,f=g+1:=⟨f - 1,by omega⟩;obtain ⟨a1,a2,-⟩:=zcp k1;obtain ⟨n1,n2,n3⟩:=zbG h;have p1:=zfC n3 (u:=[115,116,111,112]) (by decide);have p2:=zfC n3 (u:=[102,97,105,108]) (by decide);have p3:=zfC n3 (u:=[105,102]) (by decide);have p4:=zfC n3 (u:=[119,104,105,108,101]) (by decide);have p5:=zfC n3 (u:=[108,101,116]) (by decide);rw [zan,a1,a2,yN (by decide),yN (by omega),yN (not_or.2 ⟨p1,p2⟩),yN (not_or.2 ⟨p3,p4⟩),yN p5,yN (by rw [h];decide),value_back (zeO l he) hs.tail (by omega)];show PR.ok _ _=_;congr 1
  simp only [yB,yA,yL]
  omega
 | @putS d n e e' h0 h1 he he' =>
  refine ⟨fun f i o hs hel ho hf=>?_,fun h=>absurd h (by simp [opT])⟩;rw [toks_put] at hs ⊢;obtain ⟨k1,hlt⟩:=hs.at;obtain ⟨g,rfl⟩:∃ g,f=g+1:=⟨f - 1,by omega⟩;obtain ⟨a1,a2,-⟩:=zcp k1;obtain ⟨n1,n2⟩:=zgU n h0 h1
  have hs2:Seg l (i+1) ((sK [91] :: (zae e++[sK [93]]))++(sK [61] :: (zae e'++[sK [59]]))):=by
   have:(sK [91] :: (zae e++[sK [93]]))++(sK [61] :: (zae e'++[sK [59]]))=sK [91] :: (zae e++sK [93] :: sK [61] :: (zae e'++[sK [59]])):=by simp
   rw [this];exact hs.tail
  obtain ⟨g1,g2⟩:=hs2.app;have el:i+1+(sK [91] :: (zae e++[sK [93]])).length=i+1+(zae e).length+2:=by simp only [yB,yA,yL];omega
  rw [el] at g2;rw [zan,a1,a2,yN (by decide),yP (by omega),insideT_back (zeO l he) g1 (by decide) (by omega)];show (zaz l _ o).map _=_;rw [value_back (zeO l he') g2 (by omega),n1];show PR.ok _ _=_;congr 1
  simp only [yB,yA,yL]
  omega
 | @stopS d op h =>
  refine ⟨fun f i o hs hel ho hf=>?_,fun h4=>?_⟩
  ·obtain ⟨w,hw,ht⟩:∃ w,((w=[115,116,111,112]/\op=6)∨(w=[102,97,105,108]/\op=7))/\toksT (.mk op 0 [] [] [] [])=[wK w,sK [59]]:=by
    rcases h with rfl | rfl
    ·exact ⟨_,.inl ⟨rfl,rfl⟩,toks_stop⟩
    ·exact ⟨_,.inr ⟨rfl,rfl⟩,toks_fail⟩
   rw [ht] at hs ⊢;obtain ⟨k1,hlt⟩:=hs.at;obtain ⟨k2,hlt2⟩:=hs.tail.at;obtain ⟨g,rfl⟩:∃ g,f=g+1:=⟨f - 1,by omega⟩;obtain ⟨a1,a2,-⟩:=zcp k1;rw [zan,a1,a2,yN (by decide),zcb k2];rcases hw with ⟨rfl,rfl⟩ | ⟨rfl,rfl⟩
   ·rw [yN (by decide +kernel),yP (by decide),yN (by decide)];rfl
   ·rw [yN (by decide +kernel),yP (by decide),yN (by decide)];rfl
  ·rcases h with rfl | rfl <;> exact absurd h4 (by decide)
 | @whileS d e body he hb ihb =>
  refine ⟨fun f i o hs hel ho hf=>?_,fun h=>absurd h (by simp [opT])⟩;rw [toks_while] at hs ⊢;obtain ⟨k1,hlt⟩:=hs.at;obtain ⟨g,rfl⟩:∃ g,f=g+1:=⟨f - 1,by omega⟩;obtain ⟨a1,a2,-⟩:=zcp k1;obtain ⟨q1,q2⟩:=head_back (f:=g) (o:=o) he hb (fun s hs=>(ihb s hs).1) hs.tail (by omega) (by omega);obtain ⟨m,hm⟩:∃ m,l.length+1 - i=m+1:=⟨l.length - i,by omega⟩;rw [zan,a1,a2,yN (by decide),yN (by decide +kernel),yN (by decide),yP (by decide),hm,zau,q1];simp only [PR.andThen];rw [q2];simp only;rw [zjP k1,yP (by decide)];congr 1
  simp only [yB]
  omega
 | @ifS d e body els he hb hl ihb ihl =>
  have key:BrB l (d+1) (.mk 4 0 [] [e] body els):=by
   intro f g i o hs hel ho hf hg;have hB:∀ s ∈ body,StB l d s:=fun s hs=>(ihb s hs).1
   have hi:∃ r,toksT (.mk 4 0 [] [e] body els)=wK [105,102] :: (toksB e body++r)/\(els=[]/\r=[]∨(∃ x,els=[x]/\opT x=4/\r=wK elseW :: toksT x)∨(els≠[]/\r=wK elseW :: sK [123] :: (toksTs els++[sK [125]]))):=by
    cases els with
    | nil=>exact ⟨[],by rw [toks_if0,List.append_nil],.inl ⟨rfl,rfl⟩⟩
    | cons x r =>
     cases hx:zdM (x :: r) with
     | false=>exact ⟨_,toks_ife _ _ _ _ hx,.inr (.inr ⟨by simp,rfl⟩)⟩
     | true =>
      cases r with
      | nil =>
       obtain ⟨op,n',nm,es,bb,ll⟩:=x;have h4:op=4:=of_decide_eq_true hx
       exact ⟨_,toks_ifi _ _ _ h4,.inr (.inl ⟨_,rfl,h4,rfl⟩)⟩
      | cons y r=>simp [zdM] at hx
   obtain ⟨r,ht,hr⟩:=hi;rw [ht] at hs hel ⊢;obtain ⟨k1,hlt⟩:=hs.at;obtain ⟨g1,g2⟩:=hs.tail.app;obtain ⟨m,rfl⟩:∃ m,g=m+1:=⟨g - 1,by omega⟩;obtain ⟨q1,q2⟩:=head_back (f:=f) (o:=o) he hb hB g1 (by omega) (by omega);rw [zau,q1];simp only [PR.andThen];rw [q2];simp only;rw [zjP k1,yN (by decide)]
   have elen:i+(wK [105,102] :: (toksB e body++r)).length=i+1+(toksB e body).length+r.length:=by
    simp only [yB,yA];omega
   rw [elen] at hel ⊢;rcases hr with ⟨rfl,rfl⟩ | ⟨x,rfl,h4,rfl⟩ | ⟨hne,rfl⟩
   ·rw [yL,Nat.add_zero] at hel ⊢;rw [show isS l (i+1+(toksB e body).length) [101,108,115,101]=false from hel,yP rfl];rfl
   ·obtain ⟨k2,hlt2⟩:=g2.at;obtain ⟨w,t,hw,-,hw4⟩:=toksT_head (hl x (by simp));have g3:=g2.tail;have g4:=g3;rw [hw,hw4 h4] at g4;obtain ⟨k3,hlt3⟩:=g4.at
    have hel2:isS l (i+1+(toksB e body).length+1+(toksT x).length) elseW=false:=by
     rw [yB] at hel;rw [<- hel];congr 1
     omega
    have hbr:=(ihl x (by simp)).2 h4 f m _ (o+1) g3 hel2 (by omega) (by omega) (by omega);rw [zjP k2,yN (by decide),yN (by omega),zjP k3,yP (by decide),hbr];show PR.ok _ _=_;congr 1
    rw [yB];omega
   ·obtain ⟨k2,hlt2⟩:=g2.at;obtain ⟨k3,hlt3⟩:=g2.tail.at;have hbl:=block_back (f:=f) (o:=o+1) hl (fun s hs=>(ihl s hs).1) g2.tail (by omega) (by omega);rw [zjP k2,yN (by decide),yN (by omega),zcb k3,yN (by decide),hbl];show PR.ok _ _=_;congr 1
    simp only [yB,yA,yL];omega
  refine ⟨fun f i o hs hel ho hf=>?_,fun _=>key⟩;obtain ⟨w,t,hw,-,hw4⟩:=toksT_head (.ifS he hb hl);have hs2:=hs;rw [hw,hw4 rfl] at hs2;obtain ⟨k1,hlt⟩:=hs2.at;obtain ⟨g,rfl⟩:∃ g,f=g+1:=⟨f - 1,by omega⟩;obtain ⟨a1,a2,-⟩:=zcp k1;rw [zan,a1,a2,yN (by decide),yN (by decide +kernel),yN (by decide),yP (by decide)];exact key g _ i o hs hel ho (by omega) (by omega)
theorem all_back {l:List Tok} {d:Nat} (hd:2 * d+82<=200):∀ (r xs:List St) (i F:Nat),(∀ s ∈ r,ShpT d s)->Seg l i (toksTs r)->(zaa l (i+(toksTs r).length)).kind=4->l.length+1 - i<=F->allS l F xs i=.ok (xs++r) (i+(toksTs r).length):=by
 intro r
 induction r with
 | nil =>
  intro xs i F hb hs h4 hF;have hle:=hs.le;obtain ⟨F',rfl⟩:∃ F',F=F'+1:=⟨F - 1,by omega⟩;rw [allS,yP (show (zaa l i).kind=4 from h4),List.append_nil]
  rfl
 | cons x r ih =>
  intro xs i F hb hs h4 hF;rw [toksTs] at hs;obtain ⟨h1,h2⟩:=hs.app;obtain ⟨w,t,ht,hw,-⟩:=toksT_head (hb x (by simp));have h3:=h1;rw [ht] at h3;obtain ⟨k1,hlt⟩:=h3.at;obtain ⟨F',rfl⟩:∃ F',F=F'+1:=⟨F - 1,by omega⟩;have hr:∀ s ∈ r,ShpT d s:=fun s hs=>hb s (List.mem_cons_of_mem _ hs)
  have el:i+(toksTs (x :: r)).length=i+(toksT x).length+(toksTs r).length:=by rw [toksTs,yA];omega
  rw [el] at h4 ⊢
  have hno:isS l (i+(toksT x).length) elseW=false:=by
   cases r with
   | nil =>
    unfold isS;rw [show (zaa l (i+(toksT x).length)).kind=4 from h4]
    rfl
   | cons y r =>
    obtain ⟨w,t,ht,hb',-⟩:=toksT_head (hr y (by simp));rw [toksTs,ht] at h2;obtain ⟨k2,-⟩:=Seg.at (r:=t++toksTs r) h2;rw [zjP k2];exact decide_eq_false hb'.2
  obtain ⟨a1,-,-⟩:=zcp k1;have hst:zcJ l i 0=.ok x (i+(toksT x).length):=(stmt_back l (hb x (by simp))).1 _ i 0 h1 hno (by omega) (by omega);rw [allS,a1,yN (by decide),hst];show allS l F' (xs++[x]) _=_;have hpos:1<=(toksT x).length:=by rw [ht];simp
  rw [ih (xs++[x]) _ F' hr h2 h4 (by omega),List.append_assoc];rfl
theorem Lx.bang {b:UInt8} {r:List UInt8} (hb:b.toNat≠61):Lx [33] [sK [33]] (b :: r):=by
 refine Lx.tok (t:=⟨3,[33],0,0,0⟩) (.sign (by decide) (by decide) (by decide)) ⟨fun h=>absurd rfl h,fun _ x b' r' hx he hm=>?_⟩;cases hx;cases he;simp only [zbB,List.mem_cons,Prod.mk.injEq,List.not_mem_nil,or_false] at hm;rcases hm with h | h | h | h | h | h
 all_goals (obtain ⟨h1,h2⟩:=h;first | exact hb h2 | exact absurd h1 (by decide))
theorem zcX {r:List UInt8} (h:zct r=true):zeP r:=zgb h
theorem zcq (n:Int):zab (.mk 1 n [] [])=Lib.decDigits n.toNat:=rfl
theorem zcr (s:List UInt8):zab (.mk 2 0 s [])=s:=rfl
theorem zdu (n:Int) (a:Ex):zab (.mk 3 n [] [a])=kindWords.getD (n - 1).toNat []++[91]++zab a++[93]:=by
 simp only [zab,zbQ];rfl
theorem zep:zab (.mk 4 0 [] [])=[116,105,99,107]:=rfl
theorem zeq:zab (.mk 5 0 [] [])=[115,101,108,102]:=rfl
theorem zdv (a:Ex):zab (.mk 6 0 [] [a])=[114,97,110,100]++[40]++zab a++[41]:=by simp only [zab,zbQ];rfl
theorem zcN (a:Ex):zab (.mk 9 0 [] [a])=[97,98,115]++[40]++zab a++[41]:=by simp only [zab,zbQ];rfl
theorem zcs (a:Ex):zab (.mk 7 0 [] [a])=[45]++zaN (zat a,zab a) 6:=by simp only [zab,zbQ];rfl
theorem zdm (a:Ex):zab (.mk 8 0 [] [a])=[33]++zaN (zat a,zab a) 6:=by simp only [zab,zbQ];rfl
theorem zdT (a b:Ex):zab (.mk 23 0 [] [a,b])=[109,105,110]++[40]++zab a++[44,32]++zab b++[41]:=by simp only [zab,zbQ];rfl
theorem zdU (a b:Ex):zab (.mk 24 0 [] [a,b])=[109,97,120]++[40]++zab a++[44,32]++zab b++[41]:=by simp only [zab,zbQ];rfl
theorem zb0 {op:Int} (h0:10<=op) (h1:op<=22) (a b:Ex):zab (.mk op 0 [] [a,b])=zaN (zat a,zab a) (zby (zar op))++[32]++zaO op++[32]++zaN (zat b,zab b) (zar op+1):=by
 have:=zdE h0 h1;simp only [zab,zbQ];unfold zir;rw [yP (by omega)];rfl
theorem zeQ {w:List UInt8} (h:za4 w=true):∃ b t,w=b :: t/\b.toNat≠61:=by
 cases w with
 | nil=>cases h
 | cons b t =>
  refine ⟨b,t,rfl,?_⟩;unfold za4 at h;simp only [yC] at h;intro e;have hl:=h.1.2;unfold zaH zaV at hl;rw [e] at hl;exact absurd hl (by decide)
theorem zfD {w:List UInt8} (hw:za4 w=true) {o c:UInt8} (ho:zaH o=false/\zaG o=false/\zag [o]=1/\zf3 o=true) (hc:zaH c=false/\zaG c=false/\zag [c]=1/\zf3 c=true) (hs:∀ r,zct (c :: r)=true) {a:Ex} (ha:LxE a) {x:Ex} (ex:zab x=w++[o]++zab a++[c]) (et:zae x=zcF w [o] [c] (zae a)):LxE x:=by
 refine ⟨fun r _=>?_,?_⟩
 ·rw [ex,et]
  have hn:zeP ([o]++(zab a++([c]++r))):=by
   show (!zaf o)=true;unfold zaf;rw [ho.1,ho.2.1];rfl
  have:=Lx.app (Lx.app (Lx.app (Lx.word hw hn) (Lx.sign (zab a++([c]++r)) ho.1 ho.2.1 ho.2.2.1 ho.2.2.2)) (ha.1 ([c]++r) (hs r))) (Lx.sign r hc.1 hc.2.1 hc.2.2.1 hc.2.2.2);have e:[wK w]++[sK [o]]++zae a++[sK [c]]=zcF w [o] [c] (zae a):=by simp [zcF]
  rw [e] at this;exact this
 ·obtain ⟨b,t,e,hb⟩:=zeQ hw;exact ⟨b,t++[o]++zab a++[c],by rw [ex,e];rfl,hb⟩
theorem zh1 {w:List UInt8} (hw:za4 w=true) {a b:Ex} (ha:LxE a) (hb:LxE b) {x:Ex} (ex:zab x=w++[40]++zab a++[44,32]++zab b++[41]) (et:zae x=zdt w (zae a) (zae b)):LxE x:=by
 refine ⟨fun r _=>?_,?_⟩
 ·rw [ex,et];have hn:zeP ([40]++(zab a++([44,32]++(zab b++([41]++r))))):=(by decide:(!zaf 40)=true);have hcs:Lx [44,32] [sK [44]] (zab b++([41]++r)):=Lx.app (s:=[44]) (t:=[32]) (kt:=[]) (Lx.sign _ (by decide) (by decide) (by decide) (by decide)) (Lx.blank (.inl rfl) _);have:=Lx.app (Lx.app (Lx.app (Lx.app (Lx.app (Lx.word hw hn) (Lx.sign (a:=40) (zab a++([44,32]++(zab b++([41]++r)))) (by decide) (by decide) (by decide) (by decide))) (ha.1 ([44,32]++(zab b++([41]++r))) rfl)) hcs) (hb.1 ([41]++r) rfl)) (Lx.sign (a:=41) r (by decide) (by decide) (by decide) (by decide));have e:[wK w]++[sK [40]]++zae a++[sK [44]]++zae b++[sK [41]]=zdt w (zae a) (zae b):=by simp [zdt]
  rw [e] at this;exact this
 ·obtain ⟨c,t,e,hc⟩:=zeQ hw;exact ⟨c,t++[40]++zab a++[44,32]++zab b++[41],by rw [ex,e];rfl,hc⟩
theorem zjz {op:Int} (h0:10<=op) (h1:op<=22) (r:List UInt8):Lx (zaO op) [sK (zaO op)] (32 :: r):=by
 obtain ⟨b,t,e,h1,h2,h3⟩:∃ b t,zaO op=b :: t/\zaH b=false/\zaG b=false/\zag (b :: t)=(b :: t).length:=by
  obtain ⟨k,rfl⟩:=zhJ h0 h1;have key:∀ k:Fin 13,(zaO (10+(k.val:Int))).head?.all (fun b=>!zaH b && !zaG b)=true/\zag (zaO (10+(k.val:Int)))=(zaO (10+(k.val:Int))).length/\zaO (10+(k.val:Int))≠[]:=by decide
  obtain ⟨k1,k2,k3⟩:=key k
  cases he:zaO (10+(k.val:Int)) with
  | nil=>exact absurd he k3
  | cons b t =>
   rw [he] at k1 k2;simp only [List.head?_cons,Option.all_some,yC,Bool.not_eq_true'] at k1;exact ⟨b,t,rfl,k1.1,k1.2,k2⟩
 rw [e];exact Lx.stop h1 h2 h3 rfl
theorem zff:∀ {d:Nat} {x:Ex},Shp d x->LxE x:=by
 intro d x h
 induction h with
 | @num d n h0 h1 =>
  refine ⟨fun r hr=>?_,?_⟩
  ·rw [zcq,zhO];exact Lx.num h0 h1 (zcX hr)
  ·obtain ⟨b,t,e,hd,-,-⟩:=zfm (n:=n.toNat) (by omega);rw [zb1] at hd
   exact ⟨b,t,by rw [zcq,e],by omega⟩
 | @var d name h =>
  refine ⟨fun r hr=>?_,?_⟩
  ·rw [zcr,zhP];exact Lx.word (zbG h).1 (zcX hr)
  ·rw [zcr];exact zeQ (zbG h).1
 | @comp d n a h0 h1 h ih=>exact zfD (zgU n h0 h1).2 (by decide) (by decide) (fun _=>rfl) ih (zdu n a) (zgV n a)
 | @leaf d op h =>
  rcases h with rfl | rfl
  ·exact ⟨fun r hr=>Lx.word (by decide +kernel) (zcX hr),⟨_,_,rfl,by decide⟩⟩
  ·exact ⟨fun r hr=>Lx.word (by decide +kernel) (zcX hr),⟨_,_,rfl,by decide⟩⟩
 | @call d op a ho' h ih =>
  rcases ho' with rfl | rfl
  ·exact zfD (by decide +kernel) (by decide) (by decide) (fun _=>rfl) ih (zdv a) (zgW a)
  ·exact zfD (by decide +kernel) (by decide) (by decide) (fun _=>rfl) ih (zcN a) (zhQ a)
 | @pre d op a ho' h ih =>
  obtain ⟨hp,b,t,e,hb⟩:=ih.part 6;rcases ho' with rfl | rfl
  ·refine ⟨fun r hr=>?_,⟨45,_,by rw [zcs];rfl,by decide⟩⟩;rw [zcs,zhR];exact Lx.app (s:=[45]) (ks:=[sK [45]]) (Lx.sign _ (by decide) (by decide) (by decide) (by decide)) (hp r hr)
  ·refine ⟨fun r hr=>?_,⟨33,_,by rw [zdm];rfl,by decide⟩⟩;rw [zdm,zhS];refine Lx.app (s:=[33]) (ks:=[sK [33]]) ?_ (hp r hr);rw [e]
   exact Lx.bang hb
 | @two d op a b ho' ha hb iha ihb =>
  rcases ho' with rfl | rfl
  ·exact zh1 (by decide +kernel) iha ihb (zdT a b) (zhT a b)
  ·exact zh1 (by decide +kernel) iha ihb (zdU a b) (zhU a b)
 | @bin d op a b h0 h1 ha hb iha ihb =>
  obtain ⟨pa,c,t,e,hc⟩:=iha.part (zby (zar op));obtain ⟨pb,-⟩:=ihb.part (zar op+1);refine ⟨fun r hr=>?_,⟨c,_,by rw [zb0 h0 h1,e];rfl,hc⟩⟩;rw [zb0 h0 h1,zhV h0 h1];have:=Lx.app (Lx.app (Lx.app (Lx.app (pa ([32]++(zaO op++([32]++(zaN (zat b,zab b) (zar op+1)++r)))) rfl) (Lx.blank (.inl rfl) _)) (zjz h0 h1 _)) (Lx.blank (.inl rfl) _)) (pb r hr);simpa using this
theorem np32 (r:List UInt8):zeP (32 :: r):=(by decide:(!zaf 32)=true)
theorem np59 (r:List UInt8):zeP (59 :: r):=(by decide:(!zaf 59)=true)
theorem np91 (r:List UInt8):zeP (91 :: r):=(by decide:(!zaf 91)=true)
theorem Tabs.lx {t:List UInt8} (h:Tabs t) (r:List UInt8):Lx t [] r:=Lx.blanks (fun b hb=>.inr (.inl (h b hb))) r
theorem zdV (a:UInt8) (r:List UInt8) (h:(!zaH a && !zaG a && decide (zag [a]=1) && zf3 a)=true):Lx [a] [sK [a]] r:=by
 simp only [yC,Bool.not_eq_true',yQ] at h;exact Lx.sign r h.1.1.1 h.1.1.2 h.1.2 h.2
theorem lx_sp {s:List UInt8} {ks:List BK} {b:UInt8} (hb:b=32∨b=9∨b=10) {r:List UInt8} (h:Lx s ks (b :: r)):Lx (s++[b]) ks r:=by
 have:=Lx.app (s:=s) (ks:=ks) (t:=[b]) (kt:=[]) h (Lx.blank hb r);rw [List.append_nil] at this;exact this
theorem lx_eq (r:List UInt8):Lx [32,61,32] [sK [61]] r:=by
 have h1:Lx [61] [sK [61]] (32 :: r):=Lx.stop (by decide) (by decide) (by decide) rfl;exact Lx.app (s:=[32]) (ks:=[]) (t:=[61,32]) (Lx.blank (.inl rfl) _) (lx_sp (s:=[61]) (.inl rfl) h1)
def StL (s : St) : Prop := ∀ (tabs r : List UInt8), Tabs tabs -> Lx (oneW tabs s) (toksT s) r
theorem lx_lines:∀ (l:List St),(∀ s ∈ l,StL s)->∀ (tabs r:List UInt8),Tabs tabs->Lx (zaM tabs l) (toksTs l) r:=by
 intro l
 induction l with
 | nil=>intro _ tabs r _;rw [zaM,toksTs];exact .nil r
 | cons x l ih =>
  intro h tabs r ht;rw [zaM,toksTs];have:=Lx.app (Lx.app (Lx.app (ht.lx (oneW tabs x++([10]++(zaM tabs l++r)))) (h x (by simp) tabs ([10]++(zaM tabs l++r)) ht)) (Lx.blank (.inr (.inr rfl)) (zaM tabs l++r))) (ih (fun s hs=>h s (List.mem_cons_of_mem _ hs)) tabs r ht);simpa using this
def zaZ (tabs : List UInt8) (e : Ex) (body : List St) : List UInt8 := [40] ++ zab e ++ [41, 32, 123, 10] ++ zaM (tabs ++ [9]) body ++ tabs ++ [125]
theorem lx_open (r:List UInt8):Lx [32,123,10] [sK [123]] r:=
 Lx.app (s:=[32]) (ks:=[]) (t:=[123,10]) (Lx.blank (.inl rfl) _) (lx_sp (s:=[123]) (.inr (.inr rfl)) (zdV 123 (10 :: r) (by decide)))
theorem lx_block {tabs:List UInt8} (ht:Tabs tabs) {e:Ex} (he:LxE e) {body:List St} (hb:∀ s ∈ body,StL s) (r:List UInt8):Lx (zaZ tabs e body) (toksB e body) r:=by
 have h0:Lx [41,32,123,10] [sK [41],sK [123]] (zaM (tabs++[9]) body++(tabs++([125]++r))):=
  Lx.app (s:=[41]) (ks:=[sK [41]]) (t:=[32,123,10]) (zdV 41 _ (by decide)) (lx_open _)
 have:=Lx.app (Lx.app (Lx.app (Lx.app (Lx.app (zdV 40 (zab e++([41,32,123,10]++(zaM (tabs++[9]) body++(tabs++([125]++r))))) (by decide)) (he.1 ([41,32,123,10]++(zaM (tabs++[9]) body++(tabs++([125]++r)))) rfl)) h0) (lx_lines body hb (tabs++[9]) (tabs++([125]++r)) ht.more)) (ht.lx ([125]++r))) (zdV 125 r (by decide));have ek:[sK [40]]++zae e++[sK [41],sK [123]]++toksTs body++[]++[sK [125]]=toksB e body:=by simp [toksB]
 rw [ek] at this;exact this
theorem zju (tabs name:List UInt8) (e:Ex):oneW tabs (.mk 1 0 name [e] [] [])=[108,101,116,32]++name++[32,61,32]++zab e++[59]:=by rw [oneW];rfl
theorem zjv (tabs name:List UInt8) (e:Ex):oneW tabs (.mk 2 0 name [e] [] [])=name++[32,61,32]++zab e++[59]:=by rw [oneW];rfl
theorem zjw (tabs:List UInt8) (n:Int) (e e':Ex):oneW tabs (.mk 3 n [] [e,e'] [] [])=kindWords.getD (n - 1).toNat []++[91]++zab e++[93,32,61,32]++zab e'++[59]:=by rw [oneW];rfl
theorem zhZ (tabs:List UInt8):oneW tabs (.mk 6 0 [] [] [] [])=[115,116,111,112,59]:=by rw [oneW];rfl
theorem zh0 (tabs:List UInt8):oneW tabs (.mk 7 0 [] [] [] [])=[102,97,105,108,59]:=by rw [oneW];rfl
theorem zgX (tabs:List UInt8) (e:Ex) (body:List St):oneW tabs (.mk 5 0 [] [e] body [])=[119,104,105,108,101,32]++zaZ tabs e body:=by rw [oneW];rfl
theorem zjx (tabs:List UInt8) (e:Ex) (body:List St):oneW tabs (.mk 4 0 [] [e] body [])=[105,102,32]++zaZ tabs e body:=by rw [oneW];rfl
theorem zjy (tabs:List UInt8) (e:Ex) (body:List St) (x:St) (hx:opT x=4):oneW tabs (.mk 4 0 [] [e] body [x])=[105,102,32]++zaZ tabs e body++[32,101,108,115,101,32]++oneW tabs x:=by
 rw [oneW];have:zdM [x]=true:=by obtain ⟨op,_,_,_,_,_⟩:=x;exact decide_eq_true hx
 simp only [this,if_true];rfl
theorem zgG (tabs:List UInt8) (e:Ex) (body:List St) (x:St) (r:List St) (hx:zdM (x :: r)=false):oneW tabs (.mk 4 0 [] [e] body (x :: r))=[105,102,32]++zaZ tabs e body++[32,101,108,115,101,32,123,10]++zaM (tabs++[9]) (x :: r)++tabs++[125]:=by
 rw [oneW];simp only [hx];rfl
theorem lx_ws {w:List UInt8} (hw:za4 w=true) (r:List UInt8):Lx (w++[32]) [wK w] r:=lx_sp (.inl rfl) (Lx.word hw (np32 _))
theorem lx_value {e:Ex} (he:LxE e) (r:List UInt8):Lx ([32,61,32]++zab e++[59]) (sK [61] :: (zae e++[sK [59]])) r:=by
 have:=Lx.app (Lx.app (lx_eq (zab e++([59]++r))) (he.1 ([59]++r) rfl)) (zdV 59 r (by decide));have ek:[sK [61]]++zae e++[sK [59]]=sK [61] :: (zae e++[sK [59]]):=by simp
 rw [ek] at this;exact this
theorem lx_stmt:∀ {d:Nat} {s:St},ShpT d s->StL s:=by
 intro d s h
 induction h with
 | @letS d name e h he =>
  intro tabs r _;rw [zju,toks_let];have:=Lx.app (Lx.app (lx_ws (w:=[108,101,116]) (by decide +kernel) (name++(([32,61,32]++zab e++[59])++r))) (Lx.word (r:=([32,61,32]++zab e++[59])++r) (zbG h).1 (np32 _))) (lx_value (zff he) r)
  simpa using this
 | @setS d name e h he =>
  intro tabs r _;rw [zjv,toks_set];have:=Lx.app (Lx.word (r:=([32,61,32]++zab e++[59])++r) (zbG h).1 (np32 _)) (lx_value (zff he) r)
  simpa using this
 | @putS d n e e' h0 h1 he he' =>
  intro tabs r _;rw [zjw,toks_put];have h3:Lx ([93]++([32,61,32]++zab e'++[59])) ([sK [93]]++(sK [61] :: (zae e'++[sK [59]]))) r:=Lx.app (zdV 93 _ (by decide)) (lx_value (zff he') r);have:=Lx.app (Lx.app (Lx.app (Lx.word (r:=[91]++(zab e++(([93]++([32,61,32]++zab e'++[59]))++r))) (zgU n h0 h1).2 (np91 _)) (zdV 91 (zab e++(([93]++([32,61,32]++zab e'++[59]))++r)) (by decide))) ((zff he).1 (([93]++([32,61,32]++zab e'++[59]))++r) rfl)) h3
  simpa using this
 | @stopS d op h =>
  intro tabs r _;rcases h with rfl | rfl
  ·rw [zhZ,toks_stop];exact Lx.app (s:=[115,116,111,112]) (t:=[59]) (ks:=[wK [115,116,111,112]]) (Lx.word (by decide +kernel) (np59 _)) (zdV 59 r (by decide))
  ·rw [zh0,toks_fail]
   exact Lx.app (s:=[102,97,105,108]) (t:=[59]) (ks:=[wK [102,97,105,108]]) (Lx.word (by decide +kernel) (np59 _)) (zdV 59 r (by decide))
 | @whileS d e body he hb ihb =>
  intro tabs r ht;rw [zgX,toks_while]
  exact Lx.app (lx_ws (w:=[119,104,105,108,101]) (by decide +kernel) _) (lx_block ht (zff he) ihb r)
 | @ifS d e body els he hb hl ihb ihl =>
  intro tabs r ht
  cases els with
  | nil =>
   rw [zjx,toks_if0]
   exact Lx.app (lx_ws (w:=[105,102]) (by decide +kernel) _) (lx_block ht (zff he) ihb r)
  | cons x y =>
   cases hx:zdM (x :: y) with
   | false =>
    rw [zgG _ _ _ _ _ hx,toks_ife _ _ _ _ hx]
    have h1:Lx [32,101,108,115,101,32,123,10] [wK elseW,sK [123]] (zaM (tabs++[9]) (x :: y)++(tabs++([125]++r))):=
     Lx.app (s:=[32]) (ks:=[]) (t:=[101,108,115,101,32,123,10]) (Lx.blank (.inl rfl) _) (Lx.app (s:=[101,108,115,101]) (ks:=[wK elseW]) (t:=[32,123,10]) (Lx.word (by decide +kernel) (np32 _)) (lx_open _))
    have:=Lx.app (Lx.app (Lx.app (Lx.app (Lx.app (lx_ws (w:=[105,102]) (by decide +kernel) (zaZ tabs e body++([32,101,108,115,101,32,123,10]++(zaM (tabs++[9]) (x :: y)++(tabs++([125]++r)))))) (lx_block ht (zff he) ihb _)) h1) (lx_lines (x :: y) ihl (tabs++[9]) (tabs++([125]++r)) ht.more)) (ht.lx ([125]++r))) (zdV 125 r (by decide));have ek:[wK [105,102]]++toksB e body++[wK elseW,sK [123]]++toksTs (x :: y)++[]++[sK [125]]=wK [105,102] :: (toksB e body++wK [101,108,115,101] :: sK [123] :: (toksTs (x :: y)++[sK [125]])):=by simp [elseW]
    rw [ek] at this
    exact this
   | true =>
    cases y with
    | cons y z=>simp [zdM] at hx
    | nil =>
     have h4:opT x=4:=by obtain ⟨op,n',nm,es,bb,ll⟩:=x;exact of_decide_eq_true hx
     rw [zjy _ _ _ _ h4,toks_ifi _ _ _ h4]
     have h1:Lx [32,101,108,115,101,32] [wK elseW] (oneW tabs x++r):=
      Lx.app (s:=[32]) (ks:=[]) (t:=[101,108,115,101,32]) (Lx.blank (.inl rfl) _) (lx_ws (w:=[101,108,115,101]) (by decide +kernel) _)
     have:=Lx.app (Lx.app (Lx.app (lx_ws (w:=[105,102]) (by decide +kernel) (zaZ tabs e body++([32,101,108,115,101,32]++(oneW tabs x++r)))) (lx_block ht (zff he) ihb _)) h1) (ihl x (by simp) tabs r ht);have ek:[wK [105,102]]++toksB e body++[wK elseW]++toksT x=wK [105,102] :: (toksB e body++wK [101,108,115,101] :: toksT x):=by simp [elseW]
     rw [ek] at this;exact this
theorem zmV {us:List Tok} {ks:List BK} {l c:Int} (h:us.map Tok.bare=ks):Seg (us++[endT l c]) 0 ks:=⟨[],[(endT l c).bare],by rw [List.map_append,h];rfl,rfl⟩
theorem zl6 (us:List Tok) (l c:Int):(zaa (us++[endT l c]) us.length).kind=4:=by
 unfold zaa;rw [List.getD_eq_getElem?_getD,List.getElem?_append_right (zr _),Nat.sub_self];rfl
end Go.Proofs.YtdhikpkecmaplaaGreatDoor
