/- The program's translator as functions on its state; that they give the code of a tree, or the first error. Plain mathematics. -/
import Derived.Test.YtdhikpkecmaplaaGreatDoorRParEMk
import Derived.Lib.SliceRun
set_option linter.unusedSimpArgs false
set_option linter.unusedVariables false
set_option maxRecDepth 100000
set_option maxHeartbeats 1000000
namespace Go.Proofs.YtdhikpkecmaplaaGreatDoor
structure TS where
  code : znA
  names : znU
  locals : Nat
  e : Int
def TS.put (s : TS) (op a : Int) : TS := { s with code := s.code ++ [⟨op, a⟩] }
def TS.fail (s : TS) (k : Int) : TS := { s with e := if s.e = 0 then k else s.e }
def setA (c : znA) (k : Nat) (a : Int) : znA := c.modify k fun i => ⟨i.op, a⟩
def TS.patch (s : TS) (k : Nat) : TS := { s with code := setA s.code k s.code.length }
def TS.slot (s : TS) (name : List UInt8) : TS := if zai name s.names 0 = 0 then s.fail 131 else s
def TS.letE (s : TS) (name : List UInt8) : TS := if zai name s.names 0 ≠ 0 then s.fail 132 else s
def TS.letM (s : TS) : TS := if 32 <= s.names.length then s.fail 5 else s
def TS.letN (s : TS) (name : List UInt8) : TS :=
  let q := (s.letE name).letM
  { q with names := q.names ++ [name], locals := max q.locals (q.names.length + 1) }
def zoz (s1 s3 : TS) (v : Int) : TS := ((((s3.put 10 0).put 11 0).patch s1.code.length).put 1 v).patch (s3.put 10 0).code.length
def zoJ (fa fb : TS -> TS) (j v : Int) (s : TS) : TS := zoz (fa s) (fb ((fa s).put j 0)) v
mutual
def tE : Ex -> TS -> TS
  | .mk op n name args, s =>
    if op = 1 then s.put 1 n
    else if op = 2 then (s.slot name).put 2 ((zai name s.names 0 : Int) - 1)
    else if op = 4 then s.put 6 0
    else if op = 5 then s.put 7 0
    else if op = 21 then zqA args 12 0 s
    else if op = 22 then zqA args 13 1 s
    else if op = 3 then (tEs args s).put 4 n
    else if op = 6 then (tEs args s).put 8 0
    else (tEs args s).put 9 op
def tEs : List Ex -> TS -> TS
  | [], s => s
  | x :: r, s => tEs r (tE x s)
def zqA : List Ex -> Int -> Int -> TS -> TS
  | [a, b], j, v, s => zoJ (tE a) (tE b) j v s
  | _, _, _, s => s
end
def TS.back (s : TS) (n : Nat) : TS := { s with names := s.names.take n }
mutual
def tS : St -> TS -> TS
  | .mk op n name es body els, s =>
    if op = 1 then ((tEs es s).letN name).put 3 (tEs es s).names.length
    else if op = 2 then ((tEs es s).slot name).put 3 ((zai name (tEs es s).names 0 : Int) - 1)
    else if op = 3 then (tEs es s).put 5 n
    else if op = 4 then
      if els ≠ [] then (((tSs els ((((tSs body ((tEs es s).put 12 0)).back (tEs es s).names.length).put 11 0).patch (tEs es s).code.length)).back (tEs es s).names.length)).patch ((tSs body ((tEs es s).put 12 0)).code.length)
      else ((tSs body ((tEs es s).put 12 0)).back (tEs es s).names.length).patch (tEs es s).code.length
    else if op = 5 then (((tSs body ((tEs es s).put 12 0)).back (tEs es s).names.length).put 11 s.code.length).patch (tEs es s).code.length
    else if op = 6 then (tEs es s).put 14 0
    else if op = 7 then (tEs es s).put 15 0
    else tEs es s
def tSs : List St -> TS -> TS
  | [], s => s
  | x :: r, s => tSs r (tS x s)
end
theorem zoi (c:znA) (k:Nat) (a:Int):(setA c k a).length=c.length:=by simp [setA]
theorem zoM (x y:znA) (i:InsS) (a:Int) {k:Nat} (hk:k=x.length):setA (x++i :: y) k a=x++⟨i.op,a⟩ :: y:=by
 subst hk;unfold setA
 induction x with
 | nil=>rfl
 | cons z x ih=>simp only [List.cons_append,yB,List.modify_succ_cons,ih]
/-! the state's parts, znZ each step -/
theorem TS.put_code (s:TS) (op a:Int):(s.put op a).code=s.code++[⟨op,a⟩]:=rfl
theorem TS.slot_code (s:TS) (n:List UInt8):(s.slot n).code=s.code:=by unfold TS.slot;split <;> rfl
theorem TS.slot_names (s:TS) (n:List UInt8):(s.slot n).names=s.names:=by unfold TS.slot;split <;> rfl
theorem TS.slot_locals (s:TS) (n:List UInt8):(s.slot n).locals=s.locals:=by unfold TS.slot;split <;> rfl
theorem TS.letE_parts (s:TS) (n:List UInt8):(s.letE n).code=s.code/\(s.letE n).names=s.names/\(s.letE n).locals=s.locals:=by unfold TS.letE;split <;> exact ⟨rfl,rfl,rfl⟩
theorem TS.letM_parts (s:TS):s.letM.code=s.code/\s.letM.names=s.names/\s.letM.locals=s.locals:=by unfold TS.letM;split <;> exact ⟨rfl,rfl,rfl⟩
theorem TS.letN_code (s:TS) (n:List UInt8):(s.letN n).code=s.code:=by
 show ((s.letE n).letM).code=_;rw [(TS.letM_parts _).1,(TS.letE_parts _ _).1]
theorem TS.letN_names (s:TS) (n:List UInt8):(s.letN n).names=s.names++[n]:=by
 show ((s.letE n).letM).names++[n]=_;rw [(TS.letM_parts _).2.1,(TS.letE_parts _ _).2.1]
theorem TS.letN_locals (s:TS) (n:List UInt8):(s.letN n).locals=max s.locals (s.names.length+1):=by
 show max ((s.letE n).letM).locals (((s.letE n).letM).names.length+1)=_;rw [(TS.letM_parts _).2.1,(TS.letE_parts _ _).2.1,(TS.letM_parts _).2.2,(TS.letE_parts _ _).2.2]
theorem TS.fail_keep {s:TS} (h:s.e≠0) (k:Int):(s.fail k).e=s.e:=yN h
theorem TS.fail_new {s:TS} (h:s.e=0) (k:Int):(s.fail k).e=k:=yP h
theorem TS.slot_keep {s:TS} (h:s.e≠0) (n:List UInt8):(s.slot n).e=s.e:=by
 unfold TS.slot;split
 ·exact TS.fail_keep h _
 ·rfl
theorem TS.letN_e (s:TS) (n:List UInt8):(s.letN n).e=if s.e≠0 then s.e else if zai n s.names 0≠0 then 132 else if 32<=s.names.length then 5 else 0:=by
 show ((s.letE n).letM).e=_;by_cases he:s.e≠0
 ·rw [yP he];have h1:(s.letE n).e=s.e:=by unfold TS.letE;split;exact TS.fail_keep he _;rfl
  unfold TS.letM;split
  ·rw [TS.fail_keep (by rw [h1];exact he),h1]
  ·exact h1
 ·rw [yN he];have he0:s.e=0:=Decidable.not_not.1 he;by_cases hp:zai n s.names 0≠0
  ·rw [yP hp];have h1:(s.letE n).e=132:=by unfold TS.letE;rw [yP hp];exact TS.fail_new he0 _
   unfold TS.letM;split
   ·rw [TS.fail_keep (by rw [h1];decide),h1]
   ·exact h1
  ·rw [yN hp];have h1:s.letE n=s:=by unfold TS.letE;rw [yN hp]
   rw [h1];unfold TS.letM;by_cases hm:32<=s.names.length
   ·rw [yP hm,yP hm];exact TS.fail_new he0 _
   ·rw [yN hm,yN hm];exact he0
structure ExpT (s s' : TS) (z : Nat) (r : CR znA) : Prop where
  names : s'.names = s.names
  locals : s'.locals = s.locals
  le : s.code.length <= s'.code.length
  len : s'.code.length <= s.code.length + 4 * z
  keep : s.e ≠ 0 -> s'.e = s.e
  ok : s.e = 0 -> ∀ c, r = .ok c -> s'.e = 0 /\ s'.code = znB s.code c
  bad : s.e = 0 -> ∀ k, r = .err k -> s'.e = k
theorem zpe (a:znA) (i:InsS) (h:zn5 i=false):znB a [i]=a++[i]:=by
 unfold znB znF;rw [List.map_singleton,show znK a.length i=i from by unfold znK;rw [yN (by rw [h];decide)]]
theorem ExpT.one (s:TS) (op a:Int) (z:Nat) (hz:1<=z) (h:zn5 ⟨op,a⟩=false):ExpT s (s.put op a) z (.ok [⟨op,a⟩]):=
 ⟨rfl,rfl,by simp [TS.put_code],by simp [TS.put_code];omega,fun _=>rfl,fun he c hc=>⟨he,by cases hc;rw [zpe _ _ h];rfl⟩,fun _ k hk=>by cases hk⟩
structure ExpsT (s s' : TS) (z : Nat) (r : CR (List znA)) : Prop where
  names : s'.names = s.names
  locals : s'.locals = s.locals
  le : s.code.length <= s'.code.length
  len : s'.code.length <= s.code.length + 4 * z
  keep : s.e ≠ 0 -> s'.e = s.e
  ok : s.e = 0 -> ∀ cs, r = .ok cs -> s'.e = 0 /\ s'.code = znB s.code (znJ cs)
  bad : s.e = 0 -> ∀ k, r = .err k -> s'.e = k
theorem zrj (cs:List znA):∀ a:znA,cs.foldl znB a=znB a (znJ cs):=by
 induction cs with
 | nil=>intro a;simp [znJ,zo1]
 | cons c r ih =>
  intro a;rw [List.foldl_cons,ih];show _=znB a (List.foldl znB [] (c :: r));rw [List.foldl_cons,ih,zoQ,zof]
theorem zqT (c:znA) (cs:List znA):znJ (c :: cs)=znB c (znJ cs):=by
 show List.foldl znB [] (c :: cs)=_;rw [List.foldl_cons,zrj,zoQ]
theorem ExpsT.nil (s:TS):ExpsT s s 0 (.ok []):=
 ⟨rfl,rfl,zr _,by omega,fun _=>rfl,fun h cs hc=>⟨h,by cases hc;simp [znJ,zo1]⟩,fun _ k hk=>by cases hk⟩
theorem ExpsT.cons {s s1 s2:TS} {z1 z2:Nat} {r1:CR znA} {r2:CR (List znA)} (h:ExpT s s1 z1 r1) (k:ExpsT s1 s2 z2 r2) (he:∀ k,r1=.err k->k≠0):ExpsT s s2 (z1+z2) (r1.andThen fun c=>r2.andThen fun cs=>.ok (c :: cs)):=by
 refine ⟨k.names.trans h.names,k.locals.trans h.locals,yT h.le k.le,by have:=h.len;have:=k.len;omega,fun e=>?_,fun e cs hc=>?_,fun e j hj=>?_⟩
 ·have:=h.keep e;rw [k.keep (by rw [this];exact e),this]
 ·obtain ⟨c,rfl,h2⟩:=CR.andThen_ok hc;obtain ⟨cs',rfl,h4⟩:=CR.andThen_ok h2;cases h4;obtain ⟨a1,a2⟩:=h.ok e c rfl;obtain ⟨b1,b2⟩:=k.ok a1 cs' rfl;exact ⟨b1,by rw [b2,a2,zof,zqT]⟩
 ·cases r1 with
  | err k1 =>
   cases hj;have:=h.bad e j rfl
   rw [k.keep (by rw [this];exact he j rfl),this]
  | ok c =>
   cases r2 with
   | err k2=>cases hj;exact k.bad (h.ok e c rfl).1 j rfl
   | ok cs=>cases hj
theorem ExpsT.fin {s s1:TS} {z:Nat} {r:CR (List znA)} (h:ExpsT s s1 z r) (op a:Int) (hj:zn5 ⟨op,a⟩=false) {q:CR znA} (hq:q=r.andThen fun cs=>.ok (znB (znJ cs) [⟨op,a⟩])):ExpT s (s1.put op a) (1+z) q:=by
 subst hq;refine ⟨h.names,h.locals,by have:=h.le;simp [TS.put_code];omega,by have:=h.len;simp [TS.put_code];omega,h.keep,fun e c hc=>?_,fun e k hk=>?_⟩
 ·obtain ⟨cs,rfl,h2⟩:=CR.andThen_ok hc;cases h2;obtain ⟨a1,a2⟩:=h.ok e cs rfl;exact ⟨a1,by rw [TS.put_code,a2,<- zof,zpe _ _ hj]⟩
 ·cases r with
  | ok cs=>cases hk
  | err k1=>cases hk;exact h.bad e k rfl
theorem zoK {i:InsS} (h:zn5 i=true) (k:Int):znK k i=⟨i.op,i.a+k⟩:=by unfold znK;rw [yP h]
theorem zqU {i:InsS} (h:zn5 i=false) (k:Int):znK k i=i:=by unfold znK;rw [yN (by rw [h];decide)]
theorem zsn (C a b:znA) (op:Int) (hop:op=21∨op=22) :
  znB C (zo0 a b op)=znB C a++⟨12+op - 21,((znB C a).length+1+b.length+3 - 1:Nat)⟩ :: (znF ((znB C a).length+1:Nat) b++[⟨10,0⟩,⟨11,((znB C a).length+1+b.length+3:Nat)⟩,⟨1,op - 21⟩]):=by
 unfold zo0;rw [<- zof];generalize znB C a=D;unfold znB znF;rw [List.map_cons,List.map_append,List.map_map];have h12:zn5 ⟨12+op - 21,(b.length:Int)+3⟩=true:=by unfold zn5;rw [yQ];show 11<=12+op - 21/\12+op - 21<=13;omega
 rw [zoK h12];congr 1
 congr 1
 ·show (⟨12+op - 21,(b.length:Int)+3+D.length⟩:InsS)=_;congr 1
  omega
 ·congr 1
  ·congr 1
   funext i
   show znK _ (znK _ i)=_;rw [zp0];congr 1
   omega
  ·show [znK _ ⟨10,0⟩,znK _ ⟨11,(b.length:Int)+4⟩,znK _ ⟨1,op - 21⟩]=_;rw [zqU rfl,zoK rfl,zqU rfl];congr 2
   show (⟨11,(b.length:Int)+4+D.length⟩:InsS)=_;congr 1
   omega
theorem zti {s s1 s3:TS} {za zb:Nat} {ra rb:CR znA} {fa fb:TS->TS} (j v:Int) (op:Int) (hop:op=21∨op=22) (hj:j=12+op - 21) (hv:v=op - 21)
  (h1:fa s=s1) (h3:fb (s1.put j 0)=s3) (ha:ExpT s s1 za ra) (hb:ExpT (s1.put j 0) s3 zb rb) (hea:∀ k,ra=.err k->k≠0) :
  ExpT s (zoJ fa fb j v s) (1+(za+zb)) (ra.andThen fun a=>rb.andThen fun b=>.ok (zo0 a b op)):=by
 have hx:zoJ fa fb j v s=zoz s1 s3 v:=by unfold zoJ;rw [h1,h3]
 rw [hx]
 have hc:(zoz s1 s3 v).code=setA (setA (s3.code++[⟨10,0⟩,⟨11,0⟩]) s1.code.length (s3.code.length+2:Nat)++[⟨1,v⟩]) (s3.code.length+1) (s3.code.length+3:Nat):=by
  simp only [zoz,TS.patch,TS.put,yA,List.length_singleton,List.append_assoc,List.cons_append,List.nil_append,zoi,yB,yL]
 have he:(zoz s1 s3 v).e=s3.e:=rfl;have hn:(zoz s1 s3 v).names=s3.names:=rfl;have hl:(zoz s1 s3 v).locals=s3.locals:=rfl;have hlen:(zoz s1 s3 v).code.length=s3.code.length+3:=by rw [hc];simp [zoi]
 have p1:(s1.put j 0).code.length=s1.code.length+1:=by simp [TS.put_code]
 refine ⟨by rw [hn,hb.names];exact ha.names,by rw [hl,hb.locals];exact ha.locals,?_,?_,?_,?_,?_⟩
 ·have:=ha.le;have:=hb.le;omega
 ·have:=ha.len;have:=hb.len;omega
 ·intro e;have:=ha.keep e;rw [he,hb.keep (by show s1.e≠0;rw [this];exact e)];exact this
 ·intro e c hcc;obtain ⟨a,rfl,h2⟩:=CR.andThen_ok hcc;obtain ⟨b,rfl,h4⟩:=CR.andThen_ok h2;cases h4;obtain ⟨a1,a2⟩:=ha.ok e a rfl;obtain ⟨b1,b2⟩:=hb.ok a1 b rfl;refine ⟨he.trans b1,?_⟩;rw [hc,zsn _ _ _ _ hop,<- a2]
  have b3:s3.code=s1.code++⟨j,0⟩ :: znF (s1.code.length+1:Nat) b:=by
   rw [b2,znB,p1,TS.put_code];simp
  have hl3:s3.code.length=s1.code.length+1+b.length:=by rw [b3];simp [zn8];omega
  rw [hl3,b3,List.append_assoc,List.cons_append,zoM _ _ _ _ rfl];have e1:s1.code++(⟨j,((s1.code.length+1+b.length+2:Nat):Int)⟩:InsS) :: (znF (s1.code.length+1:Nat) b++[⟨10,0⟩,⟨11,0⟩])++[⟨1,v⟩]=(s1.code++(⟨j,((s1.code.length+1+b.length+2:Nat):Int)⟩:InsS) :: (znF (s1.code.length+1:Nat) b++[⟨10,0⟩]))++⟨11,0⟩ :: [⟨1,v⟩]:=by simp
  rw [e1,zoM _ _ _ _ (by simp [zn8];omega),hj,hv];simp
 ·intro e k hk;rw [he]
  cases ra with
  | err k1 =>
   cases hk;have:=ha.bad e k rfl
   rw [hb.keep (by show s1.e≠0;rw [this];exact hea k rfl)];exact this
  | ok a =>
   cases rb with
   | err k2=>cases hk;exact hb.bad (ha.ok e a rfl).1 k rfl
   | ok b=>cases hk
open Go.RowKit

def strT (s : List UInt8) : Value := .string (bstr s)
structure TrC (w : World) (t B : Nat) (vc vn : Value) (s : TS) : Prop where
  blk : OwnV w t 137 [vc, .int .i64 s.locals, .int .u32 0, .int .u32 0, vn, .int .i64 s.e]
  code : w.ownsRow B 115 2 vc s.code.length (znH s.code)
  names : w.ownsRow B 9 1 vn s.names.length (s.names.map strT)
  tB : B <= t
  tc : vc.ownBlock ≠ some t
  tn : vn.ownBlock ≠ some t
  cn : ∀ g, vc.ownBlock = some g -> vn.ownBlock ≠ some g
def TrS (t : Nat) (vc vn : Value) (k : Nat) : Prop := k = t ∨ vc.ownBlock = some k ∨ vn.ownBlock = some k
structure TrF (t : Nat) (vc vn : Value) (w : World) (vc' vn' : Value) (w' : World) : Prop where
  only : Only (TrS t vc vn) w w'
  next : ∀ k, TrS t vc' vn' k -> TrS t vc vn k ∨ w.heap.size <= k
theorem TrF.refl (t:Nat) (vc vn:Value) (w:World):TrF t vc vn w vc vn w:=⟨Only.refl _ _,fun _ h=>.inl h⟩
theorem TrF.trans {t:Nat} {vc vn vc1 vn1 vc2 vn2:Value} {a b c:World} (h:TrF t vc vn a vc1 vn1 b) (k:TrF t vc1 vn1 b vc2 vn2 c):TrF t vc vn a vc2 vn2 c:=
 ⟨h.only.transNew k.only h.next,fun i hi=>by
  rcases k.next i hi with h1 | h1
  ·exact h.next i h1
  ·exact .inr (yT h.only.size h1)⟩
theorem TrF.drew {t:Nat} {vc vn vc1 vn1:Value} {a b:World} (h:TrF t vc vn a vc1 vn1 b) (n:Nat):TrF t vc vn a vc1 vn1 (b.drewN n):=⟨h.only.drewN n,h.next⟩
theorem TrF.of_below (t:Nat) (vc vn:Value) {w w':World} (h:Below w.heap.size w w'):TrF t vc vn w vc vn w':=⟨Only.of_below h,fun _ h=>.inl h⟩
theorem TrC.lt {w:World} {t B:Nat} {vc vn:Value} {s:TS} (h:TrC w t B vc vn s) {k:Nat} (hk:TrS t vc vn k):B<=k/\k < w.heap.size:=by
 rcases hk with rfl | hk | hk
 ·exact ⟨h.tB,h.blk.lt⟩
 ·exact h.code.lt k hk
 ·exact h.names.lt k hk
theorem TrF.below {w w':World} {t B:Nat} {vc vn vc' vn':Value} {s:TS} (h:TrC w t B vc vn s) (k:TrF t vc vn w vc' vn' w') (hB:B<=w.heap.size):Below B w w':=k.only.below (fun _ hk=>(h.lt hk).1) hB
theorem TrF.size {t:Nat} {vc vn vc' vn':Value} {w w':World} (k:TrF t vc vn w vc' vn' w'):w.heap.size<=w'.heap.size:=k.only.size
theorem TrF.own {t:Nat} {vc vn vc' vn':Value} {w w':World} (k:TrF t vc vn w vc' vn' w') {g:Nat} {e:TypeId} {vs:List Value} (h:OwnV w g e vs) (hn:¬ TrS t vc vn g):OwnV w' g e vs/\¬ TrS t vc' vn' g:=
 ⟨k.only.own h hn,fun hg=>by
  rcases k.next g hg with h1 | h1
  ·exact hn h1
  ·have:=h.lt;omega⟩
theorem TrC.not {w:World} {t B:Nat} {vc vn:Value} {s:TS} (h:TrC w t B vc vn s) {g:Nat} (hg:w.heap.size<=g):¬ TrS t vc vn g:=fun hk=>by have:=(h.lt hk).2;omega
theorem TrC.grown {w w':World} {t B:Nat} {vc vn:Value} {s:TS} (h:TrC w t B vc vn s) (hb:Below w.heap.size w w'):TrC w' t B vc vn s:=
 ⟨h.blk.below hb (zr _),zbu h.code hb (zr _),zbu h.names hb (zr _),h.tB,h.tc,h.tn,h.cn⟩
theorem TrC.drew {w:World} {t B:Nat} {vc vn:Value} {s:TS} (h:TrC w t B vc vn s) (n:Nat):TrC (w.drewN n) t B vc vn s:=h.grown ⟨rfl,rfl,rfl,zr _,fun _ _=>rfl⟩
def TrP (w : World) (t B : Nat) (vc vn : Value) (s' : TS) (r : Value) (e : Ending) (w' : World) : Prop :=
  e = .returned r /\ ∃ vc' vn', TrC w' t B vc' vn' s' /\ TrF t vc vn w vc' vn' w'
theorem zsk:(Tryz.prog.info? 115).map (fun i=>(i.zero,i.size,i.bytes))=some (some (.agg #[.int .u8 0,.int .i64 0]),2,16):=by kernel_rfl
theorem zsl:(Tryz.prog.info? 9).map (fun i=>(i.zero,i.size,i.bytes))=some (some (.string ⟨#[]⟩),1,16):=by kernel_rfl
theorem zn3 {w w':World} {row:Option Nat} (hg:w.grownBy w' row) {base:Nat} {e:TypeId} {sz:Nat} {v:Value} {n:Nat} {xs:List Value} (h:w.ownsRow base e sz v n xs) (hn:∀ g,v.ownBlock=some g->row≠some g):w'.ownsRow base e sz v n xs:=
 (Only.of_grown (S:=fun k=>row=some k) hg (fun g hr=>hr)).row h (fun g hg' hr=>hn g hg' hr)
theorem TrC.pushed {w w1:World} {t B:Nat} {vc vn v':Value} {s:TS} (h:TrC w t B vc vn s) (op a:Int) (hown:w1.ownsRow B 115 2 v' (s.code.length+1) (znH s.code++[.int .u8 op,.int .i64 a])) (hg:w.grownBy w1 vc.ownBlock) (hat:v'.ownBlock=vc.ownBlock∨∃ g,v'.ownBlock=some g/\w.heap.size<=g) :
  TrC (w1.setCell ⟨t,0,none⟩ v') t B v' vn (s.put op a)/\TrF t vc vn w v' vn (w1.setCell ⟨t,0,none⟩ v'):=by
 have ht:=h.blk.lt
 have htc:v'.ownBlock≠some t:=by
  rcases hat with e | ⟨g,e,hge⟩
  ·rw [e];exact h.tc
  ·rw [e];intro e2;cases e2;omega
 have hb1:OwnV w1 t 137 [vc,.int .i64 s.locals,.int .u32 0,.int .u32 0,vn,.int .i64 s.e]:=h.blk.grown hg (fun e=>h.tc e.symm);have hn1:=zn3 hg h.names (fun g hg' e=>h.cn g e hg')
 have hcn:∀ g,v'.ownBlock=some g->vn.ownBlock≠some g:=by
  intro g e;rcases hat with e1 | ⟨g',e1,hge⟩
  ·exact h.cn g (e1 ▸ e)
  ·intro e2;rw [e1] at e;cases e;have:=(h.names.lt g e2).2;omega
 refine ⟨⟨hb1.set 0 v',?_,zdB hn1 (fun g hg' e=>by subst e;exact h.tn hg') _ _,h.tB,htc,h.tn,hcn⟩,?_,?_⟩
 ·have e:znH (s.put op a).code=znH s.code++[.int .u8 op,.int .i64 a]:=by rw [TS.put_code,zrL];rfl
  have el:(s.put op a).code.length=s.code.length+1:=by simp [TS.put_code]
  rw [e,el];exact zdB hown (fun g hg' e=>by subst e;exact htc hg') _ _
 ·exact (Only.of_grown hg (fun g hr=>.inr (.inl hr))).setIn (.inl rfl) _
 ·intro k hk;rcases hk with rfl | hk | hk
  ·exact .inl (.inl rfl)
  ·rcases hat with e1 | ⟨g',e1,hge⟩
   ·exact .inl (.inr (.inl (e1 ▸ hk)))
   ·rw [e1] at hk;cases hk;exact .inr hge
  ·exact .inl (.inr (.inr hk))
theorem znS (op a:Int) (w:World) (t B:Nat) (vc vn:Value) (s:TS) (h:TrC w t B vc vn s) (hB:B<=w.heap.size) (hl:s.code.length<=1000000) :
  Calls Tryz.prog 145 #[.pointer (some ⟨t,0,none⟩),.int .u8 op,.int .i64 a] w (TrP w t B vc vn (s.put op a) (.tuple #[])):=by
 obtain ⟨ac,capc,rfl,_,_⟩:=Sl.form (Sl.of_own h.code);obtain ⟨an,capn,rfl,_,_⟩:=Sl.form (Sl.of_own h.names);have H:=zh h;have x0:=h.blk.cell (i:=0) rfl;have xf:=h.blk.free;have hcode:=h.code;clear h;go_enter Tryz.func145,Tryz.ntmps145
 go_wp2_with (at_builtin;refine zbj rfl (.tmp 11) (.tmp 15) 56 rfl hcode zsk Tryz.underlying56 rfl (by decide) rfl 1 1 rfl rfl rfl (by unfold maxLen;omega) (by omega) hB ?_;intro v' w1 hown1 hg1 hb1 hat1;obtain ⟨a1,cap1,rfl,_,_⟩:=Sl.form (Sl.of_own hown1);obtain ⟨c1,c2⟩:=H.out.pushed op a hown1 hg1 hat1;have hfz:=(H.out.blk.grown hg1 (fun e=>H.out.tc e.symm)).free;have xc1:=(H.out.blk.grown hg1 (fun e=>H.out.tc e.symm)).cell (i:=0) rfl;have C1:=zh c1;have C2:=zh c2;clear c1 c2)
 exact yE (results_none rfl _ _ _) rfl ⟨rfl,_,_,C1.out,C2.out⟩

def Pt.cells (p : Pt) : List Value := [.int .i64 p.tick, .int .i64 p.slot, .string (bstr p.src)]
def Pt.val (p : Pt) : Value := .agg #[.int .i64 p.tick, .int .i64 p.slot, .string (bstr p.src)]
def znD (l : List Pt) : List Value := l.flatMap Pt.cells
theorem znR (l:List Pt):(znD l).length=l.length * 3:=zpU _ 3 (fun _=>rfl) l
theorem zox (a b:List Pt):znD (a++b)=znD a++znD b:=by simp [znD]
theorem zpq (l:List Pt):(znD l).all (fun u=>u.oneCell')=true:=by
 unfold znD;rw [List.all_flatMap,List.all_eq_true];intro p _;rfl
def Pts (w : World) (l : List Pt) (v : Value) : Prop := Sl w 3 l.length (znD l) v
theorem Pts.below {w w':World} {l:List Pt} {v:Value} {B:Nat} (h:Pts w l v) (hb:Below B w w') (hB:w.heap.size<=B):Pts w' l v:=Sl.below (by omega) h hb hB
theorem Pts.form {w:World} {l:List Pt} {v:Value} (h:Pts w l v):∃ a cap,v=.slice a l.length cap/\l.length<=cap/\cap<=9223372036854775807:=Sl.form h
theorem Pts.at {w:World} {l:List Pt} {a:Option Addr} {n cap:Nat} (h:Pts w l (.slice a n cap)) (hn:0 < l.length) :
  ∃ b off,a=some ⟨b,off,none⟩/\b < w.heap.size/\∀ (k:Nat) (h:k < l.length),w.cell? ⟨b,off+k * 3,none⟩=some (.int .i64 l[k].tick)/\w.cell? ⟨b,off+k * 3+1,none⟩=some (.int .i64 l[k].slot)/\w.cell? ⟨b,off+k * 3+2,none⟩=some (.string (bstr l[k].src)):=by
 obtain ⟨b,off,e,hlt,hc⟩:=Sl.at (by omega) h hn;refine ⟨b,off,e,hlt,fun k hk=>?_⟩;have f:=zeW Pt.cells 3 (fun _=>rfl) l k hk;have f0:=f 0 (by omega);have f1:=f 1 (by omega);have f2:=f 2 (by omega);have d0:=hc (k * 3) (by omega);have d1:=hc (k * 3+1) (by omega);have d2:=hc (k * 3+2) (by omega);rw [Nat.add_zero] at f0;exact ⟨d0.trans f0,by rw [<- Nat.add_assoc] at d1;exact d1.trans f1,by rw [<- Nat.add_assoc] at d2;exact d2.trans f2⟩
theorem zsK (l:List (List UInt8)):(l.map fun s=>Value.string (bstr s)).all (fun u=>u.oneCell')=true:=by
 rw [List.all_map,List.all_eq_true];intro s _;rfl
theorem Strs.low {w w':World} {l:List (List UInt8)} {v:Value} {B:Nat} (h:Strs w l v) (hb:Below B w w') (hB:w.heap.size<=B):Strs w' l v:=Sl.below (by omega) h hb hB
theorem Strs.form {w:World} {l:List (List UInt8)} {v:Value} (h:Strs w l v):∃ a cap,v=.slice a l.length cap/\l.length<=cap/\cap<=9223372036854775807:=Sl.form h
theorem Strs.here {w:World} {l:List (List UInt8)} {a:Option Addr} {m cap:Nat} (h:Strs w l (.slice a m cap)) (hn:0 < l.length) :
  ∃ b off,a=some ⟨b,off,none⟩/\b < w.heap.size/\∀ (k:Nat) (h:k < l.length),w.cell? ⟨b,off+k,none⟩=some (.string (bstr l[k])):=by
 obtain ⟨b,off,rfl,hlt,hb⟩:=Sl.at (by omega) h hn;refine ⟨b,off,rfl,hlt,fun k hk=>?_⟩;rw [hb k (by omega),List.getElem?_map,yD hk];rfl
structure BkOk (ys : List Sys) (b : Bk) : Prop where
  sys : ∀ y ∈ ys, y.ok
  tick : okI b.tick
  scr : ∀ s ∈ b.scr, s.length <= 9223372036854775807
  pend : ∀ p ∈ b.pend, okI p.tick /\ okI p.slot /\ p.src.length <= 9223372036854775807
def Low (B n : Nat) (v : Value) : Prop := n = 0 ∨ ∀ g, v.ownBlock = some g -> g < B
theorem Low.mono {B B' n:Nat} {v:Value} (h:Low B n v) (hB:B<=B'):Low B' n v:=h.imp id fun h g hg=>Nat.lt_of_lt_of_le (h g hg) hB
theorem Sl.low0 {w:World} {sz n:Nat} {cs:List Value} {v:Value} (hz:0 < sz) (h:Sl w sz n cs v):Low w.heap.size n v:=by
 rcases Nat.eq_zero_or_pos n with h0 | h0
 ·exact .inl h0
 ·exact .inr fun g hg=>Sl.ownLt hz h h0 hg
theorem Sl.lowBelow {w w':World} {sz n:Nat} {cs:List Value} {v:Value} {B:Nat} (h:Sl w sz n cs v) (hl:Low B n v) (hb:Below B w w'):Sl w' sz n cs v:=by
 obtain ⟨a,cap,rfl,h2,h3,h4,h5⟩:=h;refine ⟨a,cap,rfl,h2,h3,h4,fun hn=>?_⟩;obtain ⟨b,off,rfl,hc⟩:=h5 hn;rcases hl with hl | hl
 ·omega
 ·have hlt:=hl b rfl;exact ⟨b,off,rfl,fun j hj=>by rw [hb.cell (p:=⟨b,off+j,none⟩) hlt];exact hc j hj⟩
structure BkIn (B : Nat) (w : World) (ys : List Sys) (b : Bk) (vs vc vp : Value) : Prop where
  sys : Syss w ys vs
  scr : Strs w b.scr vc
  pend : Pts w b.pend vp
  l1 : Low B ys.length vs
  l2 : Low B b.scr.length vc
  l3 : Low B b.pend.length vp
def bkV (b : Bk) (vs vc vp : Value) : Value := .agg #[.int .i64 b.tick, vs, vc, vp]
theorem BkIn.below {B:Nat} {w w':World} {ys:List Sys} {b:Bk} {vs vc vp:Value} (h:BkIn B w ys b vs vc vp) (hb:Below B w w'):BkIn B w' ys b vs vc vp:=
 ⟨Sl.lowBelow h.sys h.l1 hb,Sl.lowBelow h.scr h.l2 hb,Sl.lowBelow h.pend h.l3 hb,h.l1,h.l2,h.l3⟩
theorem BkIn.mono {B B':Nat} {w:World} {ys:List Sys} {b:Bk} {vs vc vp:Value} (h:BkIn B w ys b vs vc vp) (hB:B<=B'):BkIn B' w ys b vs vc vp:=
 ⟨h.sys,h.scr,h.pend,h.l1.mono hB,h.l2.mono hB,h.l3.mono hB⟩
def CodeV (m : Nat) (w : World) (c : znA) (v : Value) : Prop := SlC w c v /\ (c.length = 0 ∨ ∀ g, v.ownBlock = some g -> m <= g /\ ∃ cur f, w.heap[g]? = some (.cells cur 115 f))
def zqa (m : Nat) (w : World) (g : Nat) : Prop := g < m ∨ ∃ cur e f, w.heap[g]? = some (.cells cur e f) /\ e ≠ 115
theorem OwnV.noCode {w:World} {g:Nat} {e:TypeId} {vs:List Value} (h:OwnV w g e vs) (he:e≠115) (m:Nat):zqa m w g:=.inr ⟨_,e,_,h,he⟩
theorem CodeV.only2 {S:Nat->Prop} {m:Nat} {w w':World} {c:znA} {v:Value} (h:CodeV m w c v) (ho:Only S w w') (hS:∀ g,S g->zqa m w g):CodeV m w' c v:=by
 obtain ⟨h1,h2⟩:=h
 have key:c.length=0∨∀ g,v.ownBlock=some g->¬ S g:=h2.imp id fun h g hg hs=>by
  obtain ⟨a,cur,f,e⟩:=h g hg;rcases hS g hs with h3 | ⟨cur2,e2,f2,h3,h4⟩
  ·omega
  ·rw [e] at h3;cases h3;exact h4 rfl
 refine ⟨ho.sl h1 key,?_⟩;rcases h2 with h2 | h2
 ·exact .inl h2
 ·rcases key with key | key
  ·exact .inl key
  ·refine .inr fun g hg=>?_
   obtain ⟨a,cur,f,e⟩:=h2 g hg;exact ⟨a,cur,f,(ho.block g (lt_of_block e) (key g hg)).trans e⟩
theorem CodeV.only {S:Nat->Prop} {m:Nat} {w w':World} {c:znA} {v:Value} (h:CodeV m w c v) (ho:Only S w w') (hS:∀ g,S g->g < m):CodeV m w' c v:=h.only2 ho fun g hg=>.inl (hS g hg)
theorem CodeV.of_own {w:World} {B m:Nat} {c:znA} {v:Value} (h:w.ownsRow B 115 2 v c.length (znH c)) (hm:m<=B):CodeV m w c v:=by
 refine ⟨Sl.of_own h,?_⟩;rcases h.2 with ⟨rfl,h0⟩ | ⟨g,cap,cur,rfl,hg,hh,_⟩
 ·exact .inl h0
 ·refine .inr fun g2 e=>?_
  have e2:g=g2:=by simpa [Value.ownBlock] using e
  subst e2;exact ⟨by omega,cur,_,hh⟩
theorem CodeV.nil (m:Nat) (w:World):CodeV m w [] (.slice none 0 0):=⟨Sl.nil w 2,.inl rfl⟩
def scV (s : ScS) (vc : Value) : Value := .agg #[vc, .int .i64 s.prog.locals, .int .u32 (w32 s.prog.reads), .int .u32 (w32 s.prog.writes), .int .i64 s.line, .int .i64 s.col, .int .i64 s.e]
def zoH : Value := .agg #[.slice none 0 0, .int .i64 0, .int .u32 0, .int .u32 0, .int .i64 0, .int .i64 0, .int .i64 0]
def Prs (w : World) (bm n m : Nat) : Prop := bm < m /\ ∃ has val, VMap w bm n has val zoH /\ ∀ k, (has k = true -> ∃ vc, val k = scV (znC k) vc /\ CodeV m w (znC k).prog.code vc) /\ (has k = false -> val k = zoH)
theorem Prs.made (w:World):Prs (w.alloc (.map #[] 0)) w.heap.size 0 (w.heap.size+1):=
 ⟨by omega,_,_,VMap.made w zoH,fun k=>⟨fun h=>(by cases h),fun _=>rfl⟩⟩
theorem VMap.only {w w':World} {b n:Nat} {has:List UInt8->Bool} {val:List UInt8->Value} {z:Value} {S:Nat->Prop} (h:VMap w b n has val z) (ho:Only S w w') (hS:¬ S b):VMap w' b n has val z:=by
 obtain ⟨D,h1,h2,h3⟩:=h;have hlt:=h1.lt;obtain ⟨es,clock,hh,r⟩:=h1;exact ⟨D,⟨es,clock,(ho.block b hlt hS).trans hh,r⟩,h2,h3⟩
theorem Prs.only {S:Nat->Prop} {w w':World} {bm n m:Nat} (h:Prs w bm n m) (ho:Only S w w') (hS:∀ g,S g->g < m/\g≠bm):Prs w' bm n m:=by
 obtain ⟨h0,has,val,hV,hk⟩:=h;refine ⟨h0,has,val,hV.only ho (fun hs=>(hS _ hs).2 rfl),fun k=>⟨fun hh=>?_,(hk k).2⟩⟩;obtain ⟨vc,e,hc⟩:=(hk k).1 hh;exact ⟨vc,e,hc.only ho fun g hg=>(hS g hg).1⟩
theorem Prs.only2 {S:Nat->Prop} {w w':World} {bm n m:Nat} (h:Prs w bm n m) (ho:Only S w w') (hS:∀ g,S g->zqa m w g/\g≠bm):Prs w' bm n m:=by
 obtain ⟨h0,has,val,hV,hk⟩:=h;refine ⟨h0,has,val,hV.only ho (fun hs=>(hS _ hs).2 rfl),fun k=>⟨fun hh=>?_,(hk k).2⟩⟩;obtain ⟨vc,e,hc⟩:=(hk k).1 hh;exact ⟨vc,e,hc.only2 ho fun g hg=>(hS g hg).1⟩
theorem Prs.below {w w':World} {bm n m:Nat} (h:Prs w bm n m) (hb:Below w.heap.size w w'):Prs w' bm n m:=h.only (S:=fun _=>False) (Only.of_below hb) (fun _ h=>h.elim)
theorem Prs.mono {w:World} {bm n n' m:Nat} (h:Prs w bm n m) (hn:n<=n'):Prs w bm n' m:=by
 obtain ⟨h0,has,val,hV,hk⟩:=h;exact ⟨h0,has,val,hV.congr hn (fun _=>rfl) (fun _=>rfl),hk⟩
theorem Prs.lt {w:World} {bm n m:Nat} (h:Prs w bm n m):bm < w.heap.size:=by
 obtain ⟨_,has,val,hV,_⟩:=h;exact hV.lt

theorem zoR (P:ProgS) (y:Sys) (vc:Value) (w:World) (hv:∃ a k cap,vc=.slice a k cap) :
  Calls Tryz.prog 26 #[zow P vc,y.val] w (zbe (zn9 P.reads P.writes y) w):=by
 obtain ⟨a,k,cap,rfl⟩:=hv;obtain ⟨c,n,r,m⟩:=P;obtain ⟨n2,r2,w2,p2⟩:=y;unfold Sys.val zow;have h1:=zoE r2 w2;have h2:=zoA r (r2 ||| w2);have h3:=zoA m w2;have h6:=zoD (r &&& ~~~(r2 ||| w2));have h7:=zoD (m &&& ~~~w2)
 have hf:zn9 r m ⟨n2,r2,w2,p2⟩=(decide (w32 (r &&& ~~~(r2 ||| w2))=0) && decide (w32 (m &&& ~~~w2)=0)):=by
  unfold zn9;rw [Bool.eq_iff_iff];simp only [yC,beq_iff_eq,yQ,h6,h7]
 simp only;rw [hf]
 generalize w32 (r &&& ~~~(r2 ||| w2))=x at *
 generalize w32 (m &&& ~~~w2)=z at *
 clear hf h6 h7;by_cases hx:x=0
 ·subst hx;by_cases hz:z=0
  ·subst hz;go_enter Tryz.func26,Tryz.ntmps26
   go_wp2;go_ret;exact ⟨rfl,((yR _ _).alloc (zr _) _).alloc (by simp) _⟩
  ·have hz2:(z == 0)=false:=by simpa using hz
   go_enter Tryz.func26,Tryz.ntmps26
   go_wp2;go_ret;exact ⟨retb (by simp [hz]),((yR _ _).alloc (zr _) _).alloc (by simp) _⟩
 ·have hx2:(x == 0)=false:=by simpa using hx
  go_enter Tryz.func26,Tryz.ntmps26
  go_wp2;go_ret;exact ⟨retb (by simp [hx]),((yR _ _).alloc (zr _) _).alloc (by simp) _⟩
theorem zog (q:Bool) (c:Int) (w:World):Calls Tryz.prog 46 #[.bool q,.int .i64 c] w fun e w'=>e=.returned (.int .i64 (if q=true then c else 0))/\w=w':=by
 cases q
 all_goals
  go_enter Tryz.func46,Tryz.ntmps46
  go_wp2;go_ret;exact ⟨rfl,rfl⟩

theorem zq7 (c:znA):(znH c).all (fun u=>u.oneCell')=true:=by
 unfold znH;rw [List.all_flatMap,List.all_eq_true];intro p _;rfl
theorem zrC (l:List Sys):(l.flatMap Sys.cells).all (fun u=>u.oneCell')=true:=by
 rw [List.all_flatMap,List.all_eq_true];intro p _;rfl
theorem zsS:(Tryz.prog.info? 61).map (fun i=>(i.zero,i.size,i.bytes))=some (some (.agg #[.string { data:=#[] },.int .u32 0,.int .u32 0,.int .i64 0]),4,32):=by kernel_rfl
theorem zqm {w:World} {l:List Sys} {v:Value} (h:Syss w l v) (hl:l.length<=1000000) :
  Calls Tryz.prog 63 #[v] w fun e w'=>(∃ v',e=.returned v'/\w'.ownsRow w.heap.size 61 4 v' l.length (l.flatMap Sys.cells))/\Below w.heap.size w w':=by
 have hlen:(l.flatMap Sys.cells).length=l.length * 4:=zpU _ 4 (fun _=>rfl) l;have hall:(l.flatMap Sys.cells).all (fun u=>u.oneCell')=true:=zrC l;have HS:Hid (Sl w 4 l.length (l.flatMap Sys.cells) v):=zh h;obtain ⟨a,cap,rfl,hc1,hc2⟩:=Sl.form h;have hq:∀ (w:World) (a:Option Addr) (n c n' c':Nat),(binOp .eql 22 (.slice a n c) (.slice none n' c')).run Tryz.prog w=.ok (.bool a.isNone) w:=fun w a n c n' c'=>Lib.run_eql_slice_nil w _ _ a n c n' c' Tryz.underlying22
 generalize hcs:(l.flatMap Sys.cells)=cs at *
 generalize hn:l.length=n at *
 have Hall:=zh hall;have Hlen:=zh hlen;clear h hcs hn hall hlen
 cases a with
 | none =>
  have hz:n=0:=by
   rcases Nat.eq_zero_or_pos n with h0 | h0
   ·exact h0
   ·obtain ⟨_,_,e,_⟩:=Sl.at (by omega) HS.out h0;cases e
  go_enter Tryz.func63,Tryz.ntmps63
  go_wp2_with fail
  go_ret
  exact ⟨⟨_,rfl,Hlen.out,.inl ⟨rfl,hz⟩⟩,yR _ _⟩
 | some a =>
  obtain ⟨W1,hW1,hb1⟩:∃ W1,W1=w.alloc (.cells #[] 61)/\Below w.heap.size w W1:=⟨_,rfl,(yR _ _).alloc (zr _) _⟩;have HO:Hid (W1.ownsRow w.heap.size 61 4 (.slice (some ⟨w.heap.size,0,none⟩) 0 0) 0 []):=zh (by rw [hW1];exact World.ownsRow_made w #[] 0 (zr _) (Nat.zero_le _) (by simp));have HS1:Hid (Sl W1 4 n cs (.slice (some a) n cap)):=zh (Sl.below (by omega) HS.out hb1 (zr _));have hs1:=hb1.size;have Hb1:=zh hb1;have HW1:=zh hW1;clear hW1 hb1;go_enter Tryz.func63,Tryz.ntmps63
  go_wp2_with (at_builtin;rw [<- HW1.out];refine zn0 rfl (.tmp 5) (.tmp 6) 22 rfl HO.out zsS Tryz.underlying22 rfl (by decide) rfl HS1.out rfl Hall.out (by unfold maxLen;omega) (by omega) hs1 ?_;intro v0 w0 hown0 hg0 hb0 hat0;have Hown:=zh hown0;have Hb0:=zh hb0;clear hown0 hg0 hb0 hat0)
  go_ret;have ho:=Hown.out;rw [Nat.zero_add,List.nil_append] at ho;exact ⟨⟨_,rfl,ho⟩,Hb1.out.trans Hb0.out⟩
theorem zsT:(Tryz.prog.info? 9).map (fun i=>(i.zero,i.size,i.bytes))=some (some (.string { data:=#[] }),1,16):=by kernel_rfl
theorem zr9 {w:World} {l:List (List UInt8)} {v:Value} (h:Strs w l v) (hl:l.length<=1000000) :
  Calls Tryz.prog 94 #[v] w fun e w'=>(∃ v',e=.returned v'/\w'.ownsRow w.heap.size 9 1 v' l.length (l.map fun s=>Value.string (bstr s)))/\Below w.heap.size w w':=by
 have hlen:(l.map fun s=>Value.string (bstr s)).length=l.length * 1:=by simp
 have hall:(l.map fun s=>Value.string (bstr s)).all (fun u=>u.oneCell')=true:=zsK l;have HS:Hid (Sl w 1 l.length (l.map fun s=>Value.string (bstr s)) v):=zh h;obtain ⟨a,cap,rfl,hc1,hc2⟩:=Sl.form h;have hq:∀ (w:World) (a:Option Addr) (n c n' c':Nat),(binOp .eql 23 (.slice a n c) (.slice none n' c')).run Tryz.prog w=.ok (.bool a.isNone) w:=fun w a n c n' c'=>Lib.run_eql_slice_nil w _ _ a n c n' c' Tryz.underlying23
 generalize hcs:(l.map fun s=>Value.string (bstr s))=cs at *
 generalize hn:l.length=n at *
 have Hall:=zh hall;have Hlen:=zh hlen;clear h hcs hn hall hlen
 cases a with
 | none =>
  have hz:n=0:=by
   rcases Nat.eq_zero_or_pos n with h0 | h0
   ·exact h0
   ·obtain ⟨_,_,e,_⟩:=Sl.at (by omega) HS.out h0;cases e
  go_enter Tryz.func94,Tryz.ntmps94
  go_wp2_with fail
  go_ret
  exact ⟨⟨_,rfl,Hlen.out,.inl ⟨rfl,hz⟩⟩,yR _ _⟩
 | some a =>
  obtain ⟨W1,hW1,hb1⟩:∃ W1,W1=w.alloc (.cells #[] 9)/\Below w.heap.size w W1:=⟨_,rfl,(yR _ _).alloc (zr _) _⟩;have HO:Hid (W1.ownsRow w.heap.size 9 1 (.slice (some ⟨w.heap.size,0,none⟩) 0 0) 0 []):=zh (by rw [hW1];exact World.ownsRow_made w #[] 0 (zr _) (Nat.zero_le _) (by simp));have HS1:Hid (Sl W1 1 n cs (.slice (some a) n cap)):=zh (Sl.below (by omega) HS.out hb1 (zr _));have hs1:=hb1.size;have Hb1:=zh hb1;have HW1:=zh hW1;clear hW1 hb1;go_enter Tryz.func94,Tryz.ntmps94
  go_wp2_with (at_builtin;rw [<- HW1.out];refine zn0 rfl (.tmp 5) (.tmp 6) 23 rfl HO.out zsT Tryz.underlying23 rfl (by decide) rfl HS1.out rfl Hall.out (by unfold maxLen;omega) (by omega) hs1 ?_;intro v0 w0 hown0 hg0 hb0 hat0;have Hown:=zh hown0;have Hb0:=zh hb0;clear hown0 hg0 hb0 hat0)
  go_ret;have ho:=Hown.out;rw [Nat.zero_add,List.nil_append] at ho;exact ⟨⟨_,rfl,ho⟩,Hb1.out.trans Hb0.out⟩
theorem zpt:(Tryz.prog.info? 32).map (fun i=>(i.zero,i.size,i.bytes))=some (some (.agg #[.int .i64 0,.int .i64 0,.string { data:=#[] }]),3,32):=by kernel_rfl
theorem zsa {w:World} {l:List Pt} {v:Value} (h:Pts w l v) (hl:l.length<=1000000) :
  Calls Tryz.prog 95 #[v] w fun e w'=>(∃ v',e=.returned v'/\w'.ownsRow w.heap.size 32 3 v' l.length (znD l))/\Below w.heap.size w w':=by
 have hlen:(znD l).length=l.length * 3:=znR l;have hall:(znD l).all (fun u=>u.oneCell')=true:=zpq l;have HS:Hid (Sl w 3 l.length (znD l) v):=zh h;obtain ⟨a,cap,rfl,hc1,hc2⟩:=Sl.form h;have hq:∀ (w:World) (a:Option Addr) (n c n' c':Nat),(binOp .eql 24 (.slice a n c) (.slice none n' c')).run Tryz.prog w=.ok (.bool a.isNone) w:=fun w a n c n' c'=>Lib.run_eql_slice_nil w _ _ a n c n' c' Tryz.underlying24
 generalize hcs:(znD l)=cs at *
 generalize hn:l.length=n at *
 have Hall:=zh hall;have Hlen:=zh hlen;clear h hcs hn hall hlen
 cases a with
 | none =>
  have hz:n=0:=by
   rcases Nat.eq_zero_or_pos n with h0 | h0
   ·exact h0
   ·obtain ⟨_,_,e,_⟩:=Sl.at (by omega) HS.out h0;cases e
  go_enter Tryz.func95,Tryz.ntmps95
  go_wp2_with fail
  go_ret
  exact ⟨⟨_,rfl,Hlen.out,.inl ⟨rfl,hz⟩⟩,yR _ _⟩
 | some a =>
  obtain ⟨W1,hW1,hb1⟩:∃ W1,W1=w.alloc (.cells #[] 32)/\Below w.heap.size w W1:=⟨_,rfl,(yR _ _).alloc (zr _) _⟩;have HO:Hid (W1.ownsRow w.heap.size 32 3 (.slice (some ⟨w.heap.size,0,none⟩) 0 0) 0 []):=zh (by rw [hW1];exact World.ownsRow_made w #[] 0 (zr _) (Nat.zero_le _) (by simp));have HS1:Hid (Sl W1 3 n cs (.slice (some a) n cap)):=zh (Sl.below (by omega) HS.out hb1 (zr _));have hs1:=hb1.size;have Hb1:=zh hb1;have HW1:=zh hW1;clear hW1 hb1;go_enter Tryz.func95,Tryz.ntmps95
  go_wp2_with (at_builtin;rw [<- HW1.out];refine zn0 rfl (.tmp 5) (.tmp 6) 24 rfl HO.out zpt Tryz.underlying24 rfl (by decide) rfl HS1.out rfl Hall.out (by unfold maxLen;omega) (by omega) hs1 ?_;intro v0 w0 hown0 hg0 hb0 hat0;have Hown:=zh hown0;have Hb0:=zh hb0;clear hown0 hg0 hb0 hat0)
  go_ret;have ho:=Hown.out;rw [Nat.zero_add,List.nil_append] at ho;exact ⟨⟨_,rfl,ho⟩,Hb1.out.trans Hb0.out⟩
theorem zsU:(Tryz.prog.info? 115).map (fun i=>(i.zero,i.size,i.bytes))=some (some (.agg #[.int .u8 0,.int .i64 0]),2,16):=by kernel_rfl
theorem zsb {w:World} {l:znA} {v:Value} (h:SlC w l v) (hl:l.length<=1000000) :
  Calls Tryz.prog 62 #[v] w fun e w'=>(∃ v',e=.returned v'/\w'.ownsRow w.heap.size 115 2 v' l.length (znH l))/\Below w.heap.size w w':=by
 have hlen:(znH l).length=l.length * 2:=zpx l;have hall:(znH l).all (fun u=>u.oneCell')=true:=zq7 l;have HS:Hid (Sl w 2 l.length (znH l) v):=zh h;obtain ⟨a,cap,rfl,hc1,hc2⟩:=Sl.form h;have hq:∀ (w:World) (a:Option Addr) (n c n' c':Nat),(binOp .eql 56 (.slice a n c) (.slice none n' c')).run Tryz.prog w=.ok (.bool a.isNone) w:=fun w a n c n' c'=>Lib.run_eql_slice_nil w _ _ a n c n' c' Tryz.underlying56
 generalize hcs:(znH l)=cs at *
 generalize hn:l.length=n at *
 have Hall:=zh hall;have Hlen:=zh hlen;clear h hcs hn hall hlen
 cases a with
 | none =>
  have hz:n=0:=by
   rcases Nat.eq_zero_or_pos n with h0 | h0
   ·exact h0
   ·obtain ⟨_,_,e,_⟩:=Sl.at (by omega) HS.out h0;cases e
  go_enter Tryz.func62,Tryz.ntmps62
  go_wp2_with fail
  go_ret
  exact ⟨⟨_,rfl,Hlen.out,.inl ⟨rfl,hz⟩⟩,yR _ _⟩
 | some a =>
  obtain ⟨W1,hW1,hb1⟩:∃ W1,W1=w.alloc (.cells #[] 115)/\Below w.heap.size w W1:=⟨_,rfl,(yR _ _).alloc (zr _) _⟩;have HO:Hid (W1.ownsRow w.heap.size 115 2 (.slice (some ⟨w.heap.size,0,none⟩) 0 0) 0 []):=zh (by rw [hW1];exact World.ownsRow_made w #[] 0 (zr _) (Nat.zero_le _) (by simp));have HS1:Hid (Sl W1 2 n cs (.slice (some a) n cap)):=zh (Sl.below (by omega) HS.out hb1 (zr _));have hs1:=hb1.size;have Hb1:=zh hb1;have HW1:=zh hW1;clear hW1 hb1;go_enter Tryz.func62,Tryz.ntmps62
  go_wp2_with (at_builtin;rw [<- HW1.out];refine zn0 rfl (.tmp 5) (.tmp 6) 56 rfl HO.out zsU Tryz.underlying56 rfl (by decide) rfl HS1.out rfl Hall.out (by unfold maxLen;omega) (by omega) hs1 ?_;intro v0 w0 hown0 hg0 hb0 hat0;have Hown:=zh hown0;have Hb0:=zh hb0;clear hown0 hg0 hb0 hat0)
  go_ret;have ho:=Hown.out;rw [Nat.zero_add,List.nil_append] at ho;exact ⟨⟨_,rfl,ho⟩,Hb1.out.trans Hb0.out⟩
end Go.Proofs.YtdhikpkecmaplaaGreatDoor
