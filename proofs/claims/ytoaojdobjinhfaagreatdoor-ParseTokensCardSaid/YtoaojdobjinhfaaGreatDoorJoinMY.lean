/- What a lexed list looks like, and that its joined texts are lexed to the same tokens. Plain mathematics. -/
/- Join, the program's and the reference's, walked. For tokens whose joined text is at most 2^40 bytes long. -/
import Derived.Test.YtoaojdobjinhfaaGreatDoorLexMY
import Derived.Lib.Join
import Derived.Test.YtoaojdobjinhfaaGreatDoorShelf
set_option linter.unusedSimpArgs false
set_option linter.unusedVariables false
namespace Go.Proofs.YtoaojdobjinhfaaGreatDoor

def textsS (l : List Tok) : List (List UInt8) := (l.filter fun t => decide (t.kind ≠ 4)).map (·.text)
def joinS (l : List Tok) : List UInt8 := Lib.join (textsS l) [32]
def endT (l c : Int) : Tok := ⟨4, [], 0, l, c⟩
theorem lexF_shape:∀ (n:Nat) (bs:List UInt8),bs.length≤n→∀ (l c:Int) (ts:List Tok),lexF bs l c=.ok ts→∃ us l' c',ts=us++[endT l' c']∧∀ t ∈ us,TokOk t:=by
 intro n
 induction n with
 | zero =>
  intro bs hb l c ts h;obtain rfl:bs=[]:=List.eq_nil_of_length_eq_zero (by omega);rw [lexF_nil] at h;cases h
  exact ⟨[],l,c,rfl,by simp⟩
 | succ n ih =>
  intro bs hb l c ts h;rw [lexF_eq] at h;have hsl:=skip_len bs false l c
  generalize (skipS bs false l c).1=bs' at *
  generalize (skipS bs false l c).2.1=l' at *
  generalize (skipS bs false l c).2.2=c' at *
  rcases lexT_cases bs' l' c' with ⟨_,h1⟩ | ⟨code,_,h1,_⟩ | ⟨t,ht,_,_,h2,h3,h1⟩
  ·rw [h1] at h;cases h;exact ⟨[],l',c',rfl,by simp⟩
  ·rw [h1] at h;cases h
  ·rw [h1] at h;have ht1:1≤t.text.length:=List.length_pos_iff.2 ht.text
   cases hr:lexF (bs'.drop t.text.length) l' (c'+t.text.length) with
   | err a b c=>rw [hr] at h;cases h
   | ok m =>
    rw [hr] at h;cases h;have hl:(bs'.drop t.text.length).length=bs'.length - t.text.length:=List.length_drop;obtain ⟨us,a,b,rfl,hu⟩:=ih _ (by omega) _ _ _ hr;refine ⟨t :: us,a,b,rfl,fun x hx=>?_⟩;rcases List.mem_cons.1 hx with rfl | hx
    ·exact ht
    ·exact hu x hx
theorem texts_good {us:List Tok} (hu:∀ t ∈ us,TokOk t) (l c:Int):textsS (us++[endT l c])=us.map (·.text):=by
 unfold textsS;rw [List.filter_append];have e:us.filter (fun t=>decide (t.kind≠4))=us:=List.filter_eq_self.2 fun t ht=>decide_eq_true (hu t ht).kind
 rw [e];simp [endT]
theorem relex:∀ (us:List Tok),(∀ t ∈ us,TokOk t)→∀ (l c:Int),∃ us' c',lexF (Lib.join (us.map (·.text)) [32]) l c=.ok (us'++[endT l c'])∧us'.map Tok.bare=us.map Tok.bare∧∀ t ∈ us',TokOk t:=by
 intro us
 induction us with
 | nil=>intro _ l c;exact ⟨[],c,by simp [Lib.join,lexF_nil,endT],rfl,by simp⟩
 | cons t us ih =>
  intro hu l c;have ht:=hu t (by simp)
  cases us with
  | nil =>
   refine ⟨[t.moved l c],c+t.text.length,?_,rfl,by simpa using ht.moved l c⟩;have:=lexF_tok ht (r:=[]) rfl l c;rw [List.append_nil] at this;have e0:Lib.join ([t].map (·.text)) [32]=t.text:=by simp [Lib.join_cons,Lib.joinTail]
   rw [e0,this,lexF_nil]
   rfl
  | cons u us =>
   obtain ⟨us',c',h1,h2,h3⟩:=ih (fun x hx=>hu x (List.mem_cons_of_mem _ hx)) l (c+t.text.length+1);refine ⟨t.moved l c :: us',c',?_,by simp only [List.map_cons] at h2 ⊢;rw [h2];rfl,fun x hx=>?_⟩
   ·have e:Lib.join ((t :: u :: us).map (·.text)) [32]=t.text++(32 :: Lib.join ((u :: us).map (·.text)) [32]):=by
     simp only [List.map_cons,Lib.join_cons];simp [Lib.joinTail]
    rw [e,lexF_tok ht rfl,lexF_space,h1];rfl
   ·rcases List.mem_cons.1 hx with rfl | hx
    ·exact ht.moved l c
    ·exact h3 x hx
theorem texts_bare {us us':List Tok} (h:us'.map Tok.bare=us.map Tok.bare):us'.map (·.text)=us.map (·.text):=by
 have:=congrArg (List.map fun x:Int × List UInt8 × Int=>x.2.1) h;simpa [List.map_map,Tok.bare,Function.comp_def] using this
theorem joined_same {bs:List UInt8} {ts:List Tok} (h:lexF bs 1 1=.ok ts):∃ ms,lexF (joinS ts) 1 1=.ok ms∧ms.map Tok.bare=ts.map Tok.bare∧joinS ms=joinS ts:=by
 obtain ⟨us,l,c,rfl,hu⟩:=lexF_shape _ bs (Nat.le_refl _) _ _ _ h;obtain ⟨us',c',h1,h2,h3⟩:=relex us hu 1 1;refine ⟨us'++[endT 1 c'],?_,by rw [List.map_append,List.map_append,h2];rfl,?_⟩
 ·unfold joinS;rw [texts_good hu];exact h1
 ·unfold joinS;rw [texts_good hu,texts_good h3,texts_bare h2]
theorem lexF_code:∀ (n:Nat) (bs:List UInt8),bs.length≤n→∀ (l c a b e:Int),lexF bs l c=.err a b e→e=110∨e=111∨e=112:=by
 intro n
 induction n with
 | zero =>
  intro bs hb l c a b e h;obtain rfl:bs=[]:=List.eq_nil_of_length_eq_zero (by omega);rw [lexF_nil] at h
  cases h
 | succ n ih =>
  intro bs hb l c a b e h;rw [lexF_eq] at h;have hsl:=skip_len bs false l c
  generalize (skipS bs false l c).1=bs' at *
  generalize (skipS bs false l c).2.1=l' at *
  generalize (skipS bs false l c).2.2=c' at *
  rcases lexT_cases bs' l' c' with ⟨_,h1⟩ | ⟨code,_,h1,hc⟩ | ⟨t,ht,_,_,h2,h3,h1⟩
  ·rw [h1] at h;cases h
  ·rw [h1] at h;cases h;exact hc
  ·rw [h1] at h;have ht1:1≤t.text.length:=List.length_pos_iff.2 ht.text
   cases hr:lexF (bs'.drop t.text.length) l' (c'+t.text.length) with
   | ok m=>rw [hr] at h;cases h
   | err a' b' e' =>
    rw [hr] at h;cases h;have hl:(bs'.drop t.text.length).length=bs'.length - t.text.length:=List.length_drop;exact ih _ (by omega) _ _ _ _ _ hr
end Go.Proofs.YtoaojdobjinhfaaGreatDoor
namespace Go.Proofs.YtoaojdobjinhfaaGreatDoor
open Go.RowKit

theorem texts_step {l:List Tok} {k:Nat} (h:k < l.length):textsS (l.take (k+1))=textsS (l.take k)++(if l[k].kind≠4 then [l[k].text] else []):=by
 unfold textsS;rw [List.take_succ_eq_append_getElem h,List.filter_append,List.map_append];by_cases e:l[k].kind=4
 ·simp [e]
 ·simp [e]
theorem texts_le (l:List Tok):(textsS l).length≤l.length:=by
 unfold textsS;rw [List.length_map];exact List.length_filter_le _ _
theorem info_str:(Tryz.prog.info? 9).map (fun i=>(i.zero,i.size,i.bytes))=some (some (.string ByteArray.empty),1,16):=by kernel_rfl
def strV (s : List UInt8) : Value := .string (bstr s)
set_option maxRecDepth 100000 in
theorem spaced_any (v:Value) (xs:List (List UInt8)) (w:World) (B:Nat) (h:w.ownsRow B 9 1 v xs.length (xs.map strV)) (hn:xs.length≤1000000000) (hlen:(Lib.join xs [32]).length≤140737488355328) :
  Calls Tryz.prog 69 #[v] w fun e w'=>e=.returned (.string (bstr (Lib.join xs [32])))∧Below w.heap.size w w':=by
 have hsl:=Sl.of_own h
 have HJ:Hid (Calls Tryz.prog 109 #[v,.string { data:=#[32] }] w fun e w'=>e=.returned (.string (bstr (Lib.join xs [32])))∧Below w.heap.size w w'):=Lib.hid (by
  obtain ⟨a,cap,rfl,h1,h2⟩:=Sl.form hsl;rcases Nat.eq_zero_or_pos xs.length with h0 | h0
  ·obtain rfl:xs=[]:=List.eq_nil_of_length_eq_zero h0;refine (Tryz.strings_Join_none a cap _ w).mono ?_;rintro e w' ⟨rfl,rfl⟩;exact ⟨rfl,Below.refl _ _⟩
  ·obtain ⟨b,off,rfl,hlt,hc⟩:=Sl.at (by omega) hsl h0
   have:=Tryz.strings_Join b off cap (xs.map bstr) { data:=#[32] } w (fun j x hj=>by
    rw [List.getElem?_map] at hj
    obtain ⟨hjl,hj2⟩:∃ h:j < xs.length,bstr xs[j]=x:=by
     cases hq:xs[j]? with
     | none=>rw [hq] at hj;cases hj
     | some y =>
      obtain ⟨h1,h2⟩:=List.getElem?_eq_some_iff.1 hq;rw [hq] at hj;exact ⟨h1,by rw [h2];simpa using hj⟩
    rw [hc j (by omega),List.getElem?_map,List.getElem?_eq_getElem hjl,← hj2]
    rfl) hlt (by simp;omega) (by simpa using h1) (by
     have e:(xs.map bstr).map (·.data.toList)=xs:=by
      rw [List.map_map]
      conv=>rhs;rw [← List.map_id xs]
      exact List.map_congr_left fun y _=>by show (bstr y).data.toList=y;unfold bstr;simp
     rw [e];exact hlen)
   have e:(xs.map bstr).map (·.data.toList)=xs:=by
    rw [List.map_map]
    conv=>rhs;rw [← List.map_id xs]
    exact List.map_congr_left fun y _=>by show (bstr y).data.toList=y;unfold bstr;simp
   rw [e,List.length_map] at this
   exact this)
 clear hsl h hn hlen;go_enter Tryz.func69,Tryz.ntmps69
 go_wp2_with fail
 go_at_call 109;refine HJ.out.mono ?_;rintro e1 w2 ⟨rfl,hb⟩;have Hb:=Lib.hid hb;clear hb;go_wp2_with fail
 go_ret;exact ⟨rfl,Hb.out⟩
set_option maxRecDepth 100000 in
set_option maxHeartbeats 1000000 in
theorem join_any (l:List Tok) (v:Value) (w:World) (hT:Toks w l v) (hn:l.length≤1000000) (hlen:(joinS l).length≤140737488355328) :
  Calls Tryz.prog 38 #[v] w fun e w'=>e=.returned (.string (bstr (joinS l)))∧Below w.heap.size w w':=by
 obtain ⟨a,cap,rfl,hc1,hc2⟩:=Sl.form hT;have HT:=Lib.hid hT;have Hlen:=Lib.hid hlen;clear hT hlen;go_enter Tryz.func38,Tryz.ntmps38
 go_wp2_with fail
 go_loopw [3,5,8,9,10,11,12,13,14,15,16,17,18,19,20] (fun t3 _ t8 _ _ _ _ _ _ _ _ _ _ _ _ wr=>∃ k:Nat,k≤l.length∧t8=.int .i64 k∧wr.ownsRow w.heap.size 9 1 t3 (textsS (l.take k)).length ((textsS (l.take k)).map strV)∧Hid (Below w.heap.size w wr)) (fun _ _ t8 _ _ _ _ _ _ _ _ _ _ _ _ _=>l.length - (intOf t8).toNat)
 case atStart=>exact ⟨0,by omega,rfl,World.ownsRow_nil _ _ _ _,Lib.hid (Below.refl _ _)⟩
 case round =>
  obtain ⟨k,hk,rfl,hown,Hb⟩:=hrel;have Hown:=Lib.hid hown;have hwr:=Hb.out.size;clear hown;by_cases hlt:k < l.length
  ·have HTr:Hid (Toks wr l (.slice a l.length cap)):=Lib.hid (Sl.below (by omega) HT.out Hb.out (Nat.le_refl _));obtain ⟨b,off,rfl,d0,d1,d2,d3,d4⟩:=tok_cells HTr.out hlt;have Hst:=Lib.hid (texts_step hlt);have Hat:=Lib.hid (tokAt_eq hlt);have hle:=texts_le (l.take k);have hle2:(l.take k).length≤k:=List.length_take_le _ _;obtain ⟨q,hq,Hq⟩:∃ q:Bool,((tokAt l k).kind != 4)=q∧Hid (textsS (l.take (k+1))=textsS (l.take k)++(if q=true then [(tokAt l k).text] else [])):=⟨_,rfl,Lib.hid (by rw [Hst.out,Hat.out];simp only [bne_iff_ne])⟩;obtain ⟨T,hT⟩:∃ T,tokAt l k=T:=⟨_,rfl⟩;rw [hT] at d0 d1 d2 d3 d4 hq Hq;clear hT Hst Hat;cases q
   ·go_wp2_with fail
    go_roundw
    case rel=>exact ⟨k+1,by omega,by go_num,by rw [Hq.out];simpa using Hown.out.alloc _,Lib.hid (Hb.out.alloc hwr _)⟩
    case measure=>simp [intOf];omega
   ·have hown2:=Hown.out.alloc (.cells (Tok.cells T).toArray 51);have Hb2:=Lib.hid (Hb.out.alloc hwr (.cells (Tok.cells T).toArray 51));unfold Tok.cells at hown2 Hb2;go_wp2_with (at_builtin;refine wpList_append_at rfl (.tmp 15) (.tmp 18) 33 rfl hown2 info_str Tryz.underlying33 rfl (by decide) rfl 1 1 (by show Value.slice (some ⟨wr.heap.size+1,0,none⟩) 1 1=_;simp) rfl rfl (by unfold maxLen;omega) (by omega) Hb2.out.size ?_;intro v' w3 hown4 hg4 hb4 hat4;have Hown4:=Lib.hid hown4;have Hb3:Hid (Below w.heap.size w w3):=Lib.hid (Hb2.out.trans hb4);clear hown4 hg4 hb4 hat4)
    go_roundw
    case rel=>exact ⟨k+1,by omega,by go_num,by rw [Hq.out,if_pos rfl,List.length_append,List.map_append];exact Hown4.out,Lib.hid Hb3.out⟩
    case measure=>simp [intOf];omega
  ·obtain rfl:k=l.length:=by omega
   have hle:=texts_le l
   have HS:Hid (Calls Tryz.prog 69 #[u3] wr fun e w'=>e=.returned (.string (bstr (joinS l)))∧Below wr.heap.size wr w'):=Lib.hid (by
    have h:=Hown.out;rw [List.take_length] at h
    exact spaced_any _ _ _ _ h (by omega) Hlen.out)
   go_wp2_with fail
   go_at_call 69;refine HS.out.mono ?_;rintro e1 w2 ⟨rfl,hb⟩;have Hb2:=Lib.hid (Hb.out.trans (hb.mono hwr));clear hb;go_wp2_with fail
   go_ret;exact ⟨rfl,Hb2.out⟩
end Go.Proofs.YtoaojdobjinhfaaGreatDoor
