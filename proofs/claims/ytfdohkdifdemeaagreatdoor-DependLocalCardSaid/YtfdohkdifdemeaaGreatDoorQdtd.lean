/- Texts joined: Lite12 LexP DeclP Rep Rep2 Lite13 Lite14 Lite15 Lite16 LiteS LiteN LiteO ExprP CmdP ProcP ModP LayP. -/
import Derived.Test.YtfdohkdifdemeaaGreatDoorQdtc
import Derived.Lib.RuneCount
import Derived.Lib.TrimU
import Derived.Laws.StructEq
import Derived.Laws.Cover3
import Derived.Maps.AppendAt
import Derived.Laws.Pointers
set_option linter.all false
set_option maxRecDepth 4000
section
namespace bt
open Go Go.RowKit
structure uU(p:Prop):Prop where out:p
theorem bn{A B:Prop}(k:B)(h:uU B→A:=by
 intro q
 (repeat' first
 | assumption
 | exact Ext.refl _
 | refine Ext.trans ?_ (by assumption)
 | refine K.wrap (by omega) ?_
 | refine K.sB (by assumption) ?_ rfl ?_
 | refine K.qd (by assumption) ?_ rfl ?_
 | refine K.ud (by assumption) ?_ (by omega) rfl ?_
 | refine K.ue (by assumption) ?_ (by omega) rfl ?_
 | refine K.uc (by assumption) ?_ (by omega) rfl ?_
 | refine K.tX (by omega) ?_
 | refine K.rZ (by first | assumption | omega) ?_
 | refine K.td (by first | assumption | omega) ?_
 | refine K.pX (by assumption) ?_
 | refine K.qR (by assumption) ?_
 | simp -dsimp only[c6,cA,Nat.reduceAdd,Nat.reduceEqDiff,reduceIte,reduceCtorEq,de])
 exact q.out):A:=h ⟨k⟩
theorem eG{F A B:Prop}(f:F)(k:B)(h:F→uU B→A:=by
 intro f q
 (repeat' first
 | assumption
 | exact Ext.refl _
 | refine Ext.trans ?_ (by assumption)
 | refine K.wrap (by omega) ?_
 | refine K.sB (by assumption) ?_ rfl ?_
 | refine K.qd (by assumption) ?_ rfl ?_
 | refine K.ud (by assumption) ?_ (by omega) rfl ?_
 | refine K.ue (by assumption) ?_ (by omega) rfl ?_
 | refine K.uc (by assumption) ?_ (by omega) rfl ?_
 | refine K.tX (by omega) ?_
 | refine K.rZ (by first | assumption | omega) ?_
 | refine K.td (by first | assumption | omega) ?_
 | refine K.pX (by assumption) ?_
 | refine K.qR (by assumption) ?_
 | simp -dsimp only[c6,cA,Nat.reduceAdd,Nat.reduceEqDiff,reduceIte,reduceCtorEq,de,f])
 exact q.out):A:=h f ⟨k⟩
theorem o8{A B:Prop}(k:B)(h:uU B→A:=by
 intro q
 (repeat' first
 | assumption
 | exact Ext.refl _
 | refine Ext.trans ?_ (by assumption)
 | refine K.wrap (by omega) ?_
 | refine K.sB (by assumption) ?_ rfl ?_
 | refine K.qd (by assumption) ?_ rfl ?_
 | refine K.ud (by assumption) ?_ (by omega) rfl ?_
 | refine K.ue (by assumption) ?_ (by omega) rfl ?_
 | refine K.uc (by assumption) ?_ (by omega) rfl ?_
 | refine K.tX (by omega) ?_
 | refine K.rZ (by first | assumption | omega) ?_
 | refine K.td (by first | assumption | omega) ?_
 | refine K.pX (by assumption) ?_
 | refine K.qR (by assumption) ?_
 | simp -dsimp only[c6,Nat.reduceAdd,Nat.reduceEqDiff,reduceIte,reduceCtorEq,de])
 exact q.out):A:=h ⟨k⟩
theorem cb{F A B:Prop}(f:F)(k:B)(h:F→uU B→A:=by
 intro f q;simp -dsimp only[c6,cA,Nat.reduceAdd,Nat.reduceEqDiff,reduceIte,reduceCtorEq,de,f];exact q.out):A:=h f ⟨k⟩
def sN:List (Nat×Value)→Fr→Fr
 | [],S=>S
 | p :: r,S=>cc (sN r S) p.1 p.2
theorem uG(S:Fr):sN [] S=S:=eq_of_heq (HEq.refl _)
theorem uF(t:Nat)(v:Value)(r:List (Nat×Value))(S:Fr):sN ((t,v) :: r) S=cc (sN r S) t v:=eq_of_heq (HEq.refl _)
def Has(S:Fr):List (Nat×Value)→Prop
 | []=>True
 | p :: r=>S p.1=p.2∧Has S r
theorem tx(S:Fr):Has S []=True:=propext Iff.rfl
theorem tw(S:Fr)(t:Nat)(v:Value)(r:List (Nat×Value)):Has S ((t,v) :: r)=(S t=v∧Has S r):=propext Iff.rfl
theorem EJ{S:Fr}:∀L,Has S L→sN L S=S
 | [],_=>rfl
 | p :: r,h=>by
  show cc (sN r S) p.1 p.2=S;rw[EJ r h.2];exact iW S _ _ h.1
def sw(S:Fr):List Nat→Fr→Fr
 | [],a8=>a8
 | t :: r,a8=>cc (sw S r a8) t (S t)
theorem ua(S a8:Fr):sw S [] a8=a8:=eq_of_heq (HEq.refl _)
theorem tZ(S a8:Fr)(t:Nat)(r:List Nat):sw S (t :: r) a8=cc (sw S r a8) t (S t):=eq_of_heq (HEq.refl _)
theorem DJ{S a8:Fr}:∀cD:List Nat,(∀t∈cD,a8 t=S t)→sw S cD a8=a8
 | [],_=>rfl
 | t :: r,h=>by
  show cc (sw S r a8) t (S t)=a8;rw[DJ r fun u hu=>h u (by simp[hu])];exact iW a8 _ _ (h t (by simp))
theorem bp{p:Prop}(h:p:=by first | trivial | rfl | exact⟨rfl,trivial⟩ | (simp -dsimp only[c6,uG,uF,ua,tZ,tx,tw,Nat.reduceAdd,Nat.reduceEqDiff,reduceIte,and_self];done) | (simp -dsimp only[c6,uG,uF,ua,tZ,tx,tw,Nat.reduceAdd,Nat.reduceEqDiff,reduceIte,and_self];exact⟨rfl,trivial⟩)):p:=h
theorem HG{ds cD:List Nat}(h:(cD.all fun t => !ds.contains t)=true):∀t∈cD,ds.contains t=false:=fun t aL=>by
 have:=List.all_eq_true.1 h t aL
 simpa using this
theorem af0{p:Nat→Prop}:∀n,p n→∃m,p m∧∀k,p k→m≤k:=fun n=>by
 induction n using Nat.strongRecOn with
 | _ n e6 =>
  intro h;by_cases hm:∃k,k<n∧p k
  ·obtain⟨k,hk,aW⟩:=hm;exact e6 k hk aW
  ·exact⟨n,h,fun k hk=>Nat.le_of_not_lt fun cB=>hm ⟨k,cB,hk⟩⟩
noncomputable def least(p:Nat→Prop):Nat:=open Classical in if h:∃m,p m∧∀k,p k→m≤k then h.choose else 0
theorem Vi{p:Nat→Prop}(h:∃n,p n):p (least p)∧∀k,p k→least p≤k:=by
 obtain⟨n,aH⟩:=h;have hm:=af0 n aH;unfold least;rw[dif_pos hm];exact hm.choose_spec
section
variable{P:Program}{Q:dS→Fr→World→Prop}{S:Fr}{w:World}
theorem K.cR{β:Type}{b:e1}{t}(i N:Nat)(cD:List Nat)(M:β→List (Nat×Value))(me:β)(hZ:Nat→β→World→Prop)(KW:S i = .int .i64 0)(bq:Has S (M me))(ao:hZ 0 me w)
  (bd:∀(k:Nat) x a8 w',k≤N→hZ k x w' →
   dR P b (hb (fun fh b1=>k<N∧fh i = .int .i64 ((k:Int)+1)∧∃A5,Has fh (M A5)∧hZ (k+1) A5 b1) Q ⟨⟩) (sN (M x) (cc (sw S cD a8) i (.int .i64 k))) w' ⟨⟩)
  (bx:(cD.all fun t => !b.fi.contains t)=true:=by rfl):wz P b Q S w t:=by
 refine K.Cs i N (fun k S w => ∃x,Has S (M x)∧hZ k x w) KW ⟨me,bq,ao⟩ ?_;rintro k a8 w' cm hk af ⟨x,J6,pj⟩;have h:=bd k x a8 w' hk pj;rw[DJ cD fun t aL=>cm t (HG bx t aL),iW a8 i _ af,EJ _ J6] at h;exact h
theorem K.gK{β:Type}{a b:e1}{t}(cD:List Nat)(M:β→List (Nat×Value))(N:β→World→Prop)(h1:dR P a (hb (fun fh b1 => ∃x,Has fh (M x)∧N x b1) Q ⟨⟩) S w ⟨⟩)
  (U:∀x a8 w',N x w'→dR P b Q (sN (M x) (sw S cD a8)) w' ⟨⟩)(bx:(cD.all fun t => !a.fi.contains t)=true:=by rfl):dR P (.seq a b) Q S w t:=by
 refine K.cut _ h1 ?_;rintro a8 w' cm ⟨x,bq,fN⟩;have h:=U x a8 w' fN;rw[DJ cD fun t aL=>cm t (HG bx t aL),EJ _ bq] at h;exact h
theorem K.yu{β:Type}{b:e1}{t}(cD:List Nat)(M:β→List (Nat×Value))(me:β)(hZ:β→World→Prop)(jD:β→Nat)(bq:Has S (M me))(ao:hZ me w)
  (bd:∀x a8 w',hZ x w' →
   dR P b (hb (fun fh b1 => ∃A5,Has fh (M A5)∧hZ A5 b1∧jD A5<jD x) Q ⟨⟩) (sN (M x) (sw S cD a8)) w' ⟨⟩)
  (bx:(cD.all fun t => !b.fi.contains t)=true:=by rfl):wz P b Q S w t:=by
 refine K.loop (fun S w => ∃x,Has S (M x)∧hZ x w) (fun S w=>least fun n => ∃x,Has S (M x)∧hZ x w∧jD x=n) ⟨me,bq,ao⟩ ?_;rintro a8 w' cm ⟨x,J6,pj⟩;obtain⟨⟨y,h1,U,ah⟩,aJ⟩:=Vi (p:=fun n => ∃x,Has a8 (M x)∧hZ x w'∧jD x=n) ⟨jD x,x,J6,pj,rfl⟩;have h:=bd y a8 w' U;rw[DJ cD fun t aL=>cm t (HG bx t aL),EJ _ h1] at h;unfold dR hb at *;refine og b _ _ a8 w' (fun e fh b1 _ h=>?_) h
 match e,h with
 | .normal,⟨z,dc,cY,gW⟩ =>
  refine⟨⟨z,dc,cY⟩,?_⟩;have bk:=(Vi (p:=fun n => ∃x,Has fh (M x)∧hZ x b1∧jD x=n) ⟨jD z,z,dc,cY,rfl⟩).2 (jD z) ⟨z,dc,cY,rfl⟩;show least _<least _;rw[←ah];omega
 | .exit _,h=>exact h
 | .ret,h=>exact h
 | .fA _,h=>exact h
end
end bt
end
section
namespace o
open Go
def letter(n:Int):Bool:=decide (97≤n∧n≤122∨65≤n∧n≤90)
def digit(n:Int):Bool:=decide (48≤n∧n≤57)
def part(n:Int):Bool:=letter n||digit n||decide (n=95)
def qP(s:ByteArray)(i:Nat):Nat:=(s.get! i).toNat
def run(p:Int→Bool)(s:ByteArray):Nat:=(s.data.toList.takeWhile fun b=>p b.toNat).length
theorem Xg{α:Type}(p:α→Bool):∀(l:List α) (n:Nat) (h:n<l.length),(∀j (aI:j<n),p (l[j]'(by omega))=true)→p l[n]=false→(l.takeWhile p).length=n
 | [],n,h,_,_=>by simp at h
 | x :: l,0,h,_,U=>by simp at U;simp[U]
 | x :: l,n+1,h,h1,U=>by
  have av:p x=true:=h1 0 (by omega);rw[List.takeWhile_cons,if_pos av,List.length_cons,Xg p l n (by simpa using h) (fun j aI=>h1 (j+1) (by omega)) (by simpa using U)]
theorem Xf{α:Type}(p:α→Bool):∀(l:List α) (_:∀j (aI:j<l.length),p l[j]=true),(l.takeWhile p).length=l.length
 | [],_=>rfl
 | x :: l,h=>by
  have av:p x=true:=h 0 (by simp);rw[List.takeWhile_cons,if_pos av,List.length_cons,Xf p l (fun j aI=>h (j+1) (by simpa using aI)),List.length_cons]
theorem WH(p:Int→Bool)(s:ByteArray)(n:Nat)(h:n<s.size)(h1:∀j (aI:j<n),p (s[j]'(by omega)).toNat=true)(U:p s[n].toNat=false):run p s=n :=
 Xg (fun b:UInt8=>p b.toNat) s.data.toList n (by simpa using h) (fun j aI=>h1 j aI) U
theorem Wz(p:Int→Bool)(s:ByteArray)(h:∀j (aI:j<s.size),p s[j].toNat=true):run p s=s.size:=by
 have:=Xf (fun b:UInt8=>p b.toNat) s.data.toList (fun j aI=>h j (by simpa using aI))
 rw[run,this];simp
theorem aad{p:Int→Bool}(aW:∀r:Int,128≤r→p r=false)(s:ByteArray)(pos:Nat)(h:pos<s.size) :
  p (Utf8.decode s pos).1=p s[pos].toNat∧(p s[pos].toNat=true→(Utf8.decode s pos).2=1):=by
 by_cases bu:s[pos].toNat<128
 ·rw[decode_ascii s pos h bu];exact⟨rfl,fun _=>rfl⟩
 ·have h1:=decode_high s pos h (by omega);rw[aW _ (by omega),aW _ (by omega)];exact⟨rfl,fun h=>by simp at h⟩
theorem afH(r:Int)(h:128≤r):letter r=false:=by simp[letter];omega
theorem aag(r:Int)(h:128≤r):digit r=false:=by simp[digit];omega
theorem ag2(r:Int)(h:128≤r):part r=false:=by simp[part,afH r h,aag r h];omega
instance amh:LawfulBEq ByteArray where
 eq_of_beq {a b} h:=by rw[bt.BG] at h;exact of_decide_eq_true h
 rfl {a}:=by rw[bt.BG];exact decide_eq_true rfl
def pB:List ByteArray:=[⟨#[115,101,108,102]⟩,⟨#[110,111,110,101]⟩,⟨#[108,101,110]⟩,⟨#[97,116]⟩]
def isName(s:ByteArray):Bool:=decide (s.size≠0)&&decide (s.size≤16)&&letter (qP s 0)&&decide (run part s=s.size) && !decide (s∈pB)
theorem aik(p:Int→Bool)(s:ByteArray):run p s≤s.size:=by
 have:=(List.takeWhile_sublist (fun b:UInt8=>p b.toNat) (l:=s.data.toList)).length_le
 simpa[run] using this
theorem get_eq(s:ByteArray)(i:Nat)(h:i<s.size):s.get! i=s[i]:=by
 obtain⟨d⟩:=s;show d[i]! = d[i];exact getElem!_pos d i h
theorem get?_eq(s:ByteArray)(i:Nat)(h:i<s.size):s[i]? = some (s.get! i):=by rw[get_eq s i h];exact getElem?_pos s i h
structure Scalar where
 name:ByteArray
 size:Int
structure Var where
 name:ByteArray
 scalar:Int
 over:Int
 bA:Int
 af:Int
 init:Int
structure dK where
 name:ByteArray
 scalar:Int
 cap:Int
 bA:Int
 af:Int
 Vt:Bool
def size(k:Int)(s:List Scalar):Int :=
 match s[(k - 1).toNat]? with
 | some x=>if 1≤k∧1≤x.size∧x.size≤4 then x.size else 0
 | none=>0
def narrow(bA af:Int):Bool:=decide (-1048576≤bA∧bA≤af∧af≤1048576∧af - bA<256)
def there(k:Int)(s:List Scalar):Bool:=decide (k=0∨size k s≠0)
def err(fb:Int)(fs:Nat→ByteArray)(mo:Nat→Int)(i:Nat):Int :=
 if fb≤i then 11 else if isName (fs i)=false then 6 else if ∃j,j<i∧fs j=fs i then 7 else mo i
def first(n:Nat)(e:Nat→Int):Int×Int:=match (List.range n).find? (fun i=>decide (e i≠0)) with | some i=>((i:Int),e i) | none=>(0,0)
theorem iu{n:Nat}{e:Nat→Int}{i:Nat}(af:i<n)(h1:∀j,j<i→e j=0)(U:e i≠0):first n e=((i:Int),e i):=by
 have:(List.range n).find? (fun i=>decide (e i≠0))=some i:=by
  rw[List.find?_range_eq_some];simp only[decide_eq_true_eq];exact⟨U,by simpa using af,fun j aI=>by simp[h1 j aI]⟩
 rw[first,this]
theorem nN{n:Nat}{e:Nat→Int}(h:∀j,j<n→e j=0):first n e=(0,0):=by
 have:(List.range n).find? (fun i=>decide (e i≠0))=none:=by
  rw[List.find?_range_eq_none];intro j aI;simp[h j aI]
 rw[first,this]
theorem Sm{n:Nat}{e e':Nat→Int}(h:∀j,j<n→e j=e' j):first n e=first n e':=by
 by_cases av:∃i,i<n∧e i≠0∧∀j,j<i→e j=0
 ·obtain⟨i,af,h1,U⟩:=av;rw[iu af U h1,iu af (fun j aI=>by rw[←h j (by omega)];exact U j aI) (by rw[←h i af];exact h1),h i af]
 ·have bL:∀j,j<n→e j=0:=by
   intro j
   induction j using Nat.strongRecOn with
   | _ j e6 =>
    intro aI;by_cases ao:e j=0
    ·exact ao
    ·exact absurd ⟨j,aI,ao,fun k hk=>e6 k hk (by omega)⟩ av
  rw[nN bL,nN fun j aI=>by rw[←h j aI];exact bL j aI]
def nameAt{α:Type}(f:α→ByteArray)(l:List α)(i:Nat):ByteArray:=(l[i]?.map f).getD ⟨#[]⟩
def sL(l:List Scalar)(i:Nat):Int:=match l[i]? with | some x=>if 1≤x.size∧x.size≤4 then 0 else 10 | none=>0
def scalars(l:List Scalar):Int×Int:=first l.length (err 2 (nameAt (·.name) l) (sL l))
def bounds(v:Var)(s:List Scalar):Int×Int:=if v.scalar=0 then (v.bA,v.af) else (0,size v.scalar s)
def cells(v:Var)(s:List Scalar):Int:=if v.over=0 then 1 else size v.over s
def oe(l:List Var)(s:List Scalar)(i:Nat):Int :=
 match l[i]? with
 | some v=>if there v.scalar s=false∨there v.over s=false then 8
  else if (v.scalar=0∧narrow v.bA v.af=false)∨v.init<(bounds v s).1∨v.init > (bounds v s).2 then 10 else 0
 | none=>0
def vars(l:List Var)(s:List Scalar)(fb:Int):Int×Int:=first l.length (err (max fb 0) (nameAt (·.name) l) (oe l s))
def nK(l:List dK)(s:List Scalar)(i:Nat):Int :=
 match l[i]? with
 | some c=>if there c.scalar s=false then 8
  else if c.cap<1∨c.cap > 4∨(c.scalar=0∧narrow c.bA c.af=false) then 10 else 0
 | none=>0
def a7(l:List dK)(s:List Scalar):Int×Int:=first l.length (err 4 (nameAt (·.name) l) (nK l s))
end o
end
section
namespace o
open Go Go.RowKit bt
def Scalar.enc(x:Scalar):List Value:=[.string x.name,.int .i64 x.size]
def Var.enc(x:Var):List Value:=[.string x.name,.int .i64 x.scalar,.int .i64 x.over,.int .i64 x.bA,.int .i64 x.af,.int .i64 x.init]
def dK.enc(x:dK):List Value:=[.string x.name,.int .i64 x.scalar,.int .i64 x.cap,.int .i64 x.bA,.int .i64 x.af,.bool x.Vt]
def hE(s:ByteArray):Prop:=s.size≤9223372036854775807
instance amv(s:ByteArray):Decidable (hE s):=Nat.decLe _ _
structure iY(w:World)(a:Addr)(x:Scalar):Prop where
 cells:eB w a x.enc
 ok:hE x.name
structure o6(w:World)(a:Addr)(x:Var):Prop where
 cells:eB w a x.enc
 ok:hE x.name
structure o5(w:World)(a:Addr)(x:dK):Prop where
 cells:eB w a x.enc
 ok:hE x.name
theorem iY.ext(w w':World)(a:Addr)(x:Scalar)(he:Ext w w')(h:iY w a x):iY w' a x:=⟨h.cells.ext he,h.ok⟩
theorem o6.ext(w w':World)(a:Addr)(x:Var)(he:Ext w w')(h:o6 w a x):o6 w' a x:=⟨h.cells.ext he,h.ok⟩
theorem o5.ext(w w':World)(a:Addr)(x:dK)(he:Ext w w')(h:o5 w a x):o5 w' a x:=⟨h.cells.ext he,h.ok⟩
abbrev hG(w:World)(v:Value)(l:List Scalar):Prop:=bG 2 iY w v l
abbrev hh(w:World)(v:Value)(l:List Var):Prop:=bG 6 o6 w v l
abbrev nA(w:World)(v:Value)(l:List dK):Prop:=bG 6 o5 w v l
theorem hh.aQ{w:World}{b n:Nat}{e:TypeId}{f:Nat×Nat}{xs:List Var}(aB:w.heap[b]? = some (.cells (xs.flatMap Var.enc).toArray e f))(aH:n=xs.length)(hm:xs.length≤maxLen)(dA:∀x∈xs,hE x.name) :
  hh w (.slice (some ⟨b,0,none⟩) n n) xs:=bG.aQ (enc:=Var.enc) (fun _=>rfl) aB aH hm fun _ x av aw=>⟨aw,dA x av⟩
structure Node where
 op:Int
 n:Int
structure Act where
 kind:Int
 to:Int
 loc:Int
 index:List Node
 value:List Node
structure dL where
 name:ByteArray
 from_:Int
 to:Int
 guard:List Node
 cn:List Act
 fair:Bool
structure dt where
 name:ByteArray
 over:Int
 cW:Int
 vars:List Var
 cE:List dL
structure kg where
 name:ByteArray
 expr:List Node
structure Model where
 scalars:List Scalar
 vars:List Var
 a7:List dK
 procs:List dt
 props:List kg
structure cU where
 proc:Int
 elem:Int
deriving DecidableEq
structure Ref where
 inst:Int
 cmd:Int
deriving DecidableEq
def cU.enc(x:cU):List Value:=[.int .i64 x.proc,.int .i64 x.elem]
def Ref.enc(x:Ref):List Value:=[.int .i64 x.inst,.int .i64 x.cmd]
def Node.enc(x:Node):List Value:=[.int .i64 x.op,.int .i64 x.n]
def eM(n:Int):Prop := -9223372036854775808≤n∧n≤9223372036854775807
structure Node.ok(x:Node):Prop where
 op:eM x.op
 n:eM x.n
structure wK(w:World)(a:Addr)(x:Node):Prop where
 cells:eB w a x.enc
 ok:x.ok
theorem wK.ext(w w':World)(a:Addr)(x:Node)(he:Ext w w')(h:wK w a x):wK w' a x:=⟨h.cells.ext he,h.ok⟩
abbrev fY(w:World)(v:Value)(l:List Node):Prop:=bG 2 wK w v l
theorem fY.ext{w w':World}{v:Value}{l:List Node}(he:Ext w w')(h:fY w v l):fY w' v l:=bG.ext wK.ext he h
def Act.enc(x:Act)(cw cx:Value):List Value:=[.int .i64 x.kind,.int .i64 x.to,.int .i64 x.loc,cw,cx]
def wG(w:World)(a:Addr)(x:Act):Prop := ∃cw cx,eB w a (x.enc cw cx)∧fY w cw x.index∧fY w cx x.value
theorem wG.ext(w w':World)(a:Addr)(x:Act)(he:Ext w w')(h:wG w a x):wG w' a x:=let ⟨cw,cx,h1,U,ah⟩:=h; ⟨cw,cx,h1.ext he,U.ext he,ah.ext he⟩
abbrev oi(w:World)(v:Value)(l:List Act):Prop:=bG 5 wG w v l
theorem oi.ext{w w':World}{v:Value}{l:List Act}(he:Ext w w')(h:oi w v l):oi w' v l:=bG.ext wG.ext he h
def dL.enc(x:dL)(fV va:Value):List Value:=[.string x.name,.int .i64 x.from_,.int .i64 x.to,fV,va,.bool x.fair]
def wH(w:World)(a:Addr)(x:dL):Prop:=hE x.name∧∃fV va,eB w a (x.enc fV va)∧fY w fV x.guard∧oi w va x.cn
theorem wH.ext(w w':World)(a:Addr)(x:dL)(he:Ext w w')(h:wH w a x):wH w' a x:=let ⟨ao,cw,cx,h1,U,ah⟩:=h; ⟨ao,cw,cx,h1.ext he,U.ext he,ah.ext he⟩
abbrev om(w:World)(v:Value)(l:List dL):Prop:=bG 6 wH w v l
theorem om.ext{w w':World}{v:Value}{l:List dL}(he:Ext w w')(h:om w v l):om w' v l:=bG.ext wH.ext he h
theorem hG.ext{w w':World}{v:Value}{l:List Scalar}(he:Ext w w')(h:hG w v l):hG w' v l:=bG.ext iY.ext he h
theorem hh.ext{w w':World}{v:Value}{l:List Var}(he:Ext w w')(h:hh w v l):hh w' v l:=bG.ext o6.ext he h
theorem nA.ext{w w':World}{v:Value}{l:List dK}(he:Ext w w')(h:nA w v l):nA w' v l:=bG.ext o5.ext he h
def dt.enc(x:dt)(cx eg:Value):List Value:=[.string x.name,.int .i64 x.over,.int .i64 x.cW,cx,eg]
def yN(w:World)(a:Addr)(x:dt):Prop:=hE x.name∧∃cx eg,eB w a (x.enc cx eg)∧hh w cx x.vars∧om w eg x.cE
theorem yN.ext(w w':World)(a:Addr)(x:dt)(he:Ext w w')(h:yN w a x):yN w' a x:=let ⟨ao,cw,cx,h1,U,ah⟩:=h; ⟨ao,cw,cx,h1.ext he,U.ext he,ah.ext he⟩
abbrev pP(w:World)(v:Value)(l:List dt):Prop:=bG 5 yN w v l
theorem pP.ext{w w':World}{v:Value}{l:List dt}(he:Ext w w')(h:pP w v l):pP w' v l:=bG.ext yN.ext he h
def wu(w:World)(cs:List Value)(c:dL):Prop:=hE c.name∧∃fV va,cs=c.enc fV va∧fY w fV c.guard∧oi w va c.cn
theorem wu.ext{w w':World}{cs:List Value}{c:dL}(he:Ext w w')(h:wu w cs c):wu w' cs c:=let ⟨ao,cw,cx,h1,U,ah⟩:=h; ⟨ao,cw,cx,h1,U.ext he,ah.ext he⟩
def uW(w:World)(cs:List Value)(p:dt):Prop:=hE p.name∧∃cx eg,cs=p.enc cx eg∧hh w cx p.vars∧om w eg p.cE
theorem uW.ext{w w':World}{cs:List Value}{p:dt}(he:Ext w w')(h:uW w cs p):uW w' cs p:=let ⟨ao,cw,cx,h1,U,ah⟩:=h; ⟨ao,cw,cx,h1,U.ext he,ah.ext he⟩
def kg.enc(x:kg)(hV:Value):List Value:=[.string x.name,hV]
def yO(w:World)(a:Addr)(x:kg):Prop:=hE x.name∧∃hV,eB w a (x.enc hV)∧fY w hV x.expr
theorem yO.ext(w w':World)(a:Addr)(x:kg)(he:Ext w w')(h:yO w a x):yO w' a x:=let ⟨ao,cw,h1,U⟩:=h; ⟨ao,cw,h1.ext he,U.ext he⟩
abbrev yM(w:World)(v:Value)(l:List kg):Prop:=bG 2 yO w v l
theorem yM.ext{w w':World}{v:Value}{l:List kg}(he:Ext w w')(h:yM w v l):yM w' v l:=bG.ext yO.ext he h
structure dM(w:World)(cs:List Value)(m:Model):Prop where
 ex:∃v0 v1 v2 v3 v4,cs=[v0,v1,v2,v3,v4]∧hG w v0 m.scalars∧hh w v1 m.vars∧nA w v2 m.a7∧pP w v3 m.procs∧yM w v4 m.props
theorem dM.ext{w w':World}{cs:List Value}{m:Model}(he:Ext w w')(h:dM w cs m):dM w' cs m :=
 let ⟨v0,v1,v2,v3,v4,e,ao,h1,U,ah,aJ⟩:=h.ex
 ⟨v0,v1,v2,v3,v4,e,ao.ext he,h1.ext he,U.ext he,ah.ext he,aJ.ext he⟩
instance ame:oZ wK Node.enc:=⟨fun _ _ _ h=>h.cells⟩
instance amf:oZ iY Scalar.enc:=⟨fun _ _ _ h=>h.cells⟩
instance amg:oZ o6 Var.enc:=⟨fun _ _ _ h=>h.cells⟩
instance ama:oZ o5 dK.enc:=⟨fun _ _ _ h=>h.cells⟩
end o
end
section
namespace bt
open Go Go.RowKit
section
variable{P:Program}{aE:Value→Prop}{w w0:World}
theorem K.Mb{a:Addr}{cs:List Value}{j:Nat}{v:Value}{t}(h:eB w0 a cs)(he:Ext w0 w)(aI:cs[j]? = some v)(hk:aE v):pM (.pointer (some (a.add j))) w aE t:=K.ld (he.cell (h j v aI)) hk
theorem K.Ma{a:Addr}{cs:List Value}{n:Nat}{t}(h:eB w0 a cs)(he:Ext w0 w)(aH:cs.length=n)(hk:aE (.agg cs.toArray)):sU n (.pointer (some a)) w aE t:=K.j8 (h.ext he) aH hk
end
theorem aa{A B:Prop}(k:B)(h:uU B→A:=by
 intro q
 (repeat' first
 | assumption
 | exact Ext.refl _
 | refine Ext.trans ?_ (by assumption)
 | simp -dsimp only[c6,cA,Nat.reduceAdd,Nat.reduceEqDiff,reduceIte,reduceCtorEq,de,uG,uF,ua,tZ,tx,tw,List.cons_append,List.nil_append]
 | refine K.wrap (by omega) ?_
 | refine K.sB (by assumption) ?_ rfl ?_
 | refine K.qd (by assumption) ?_ rfl ?_
 | refine K.tX (by omega) ?_
 | refine K.rZ (by first | assumption | omega) ?_
 | refine K.td (by first | assumption | omega) ?_
 | refine K.pX (by assumption) ?_
 | refine K.qR (by assumption) ?_
 | refine K.ud (by assumption) ?_ (by omega) rfl ?_
 | refine K.ue (by assumption) ?_ (by omega) rfl ?_
 | refine K.uc (by assumption) ?_ (by omega) rfl ?_
 | refine K.Mb (by assumption) ?_ rfl ?_
 | refine K.Ma (by assumption) ?_ rfl ?_
 | refine K.gX (by assumption) ?_ rfl ?_
 | refine K.sF (fun _=>by (simp -dsimp only[c6,Nat.reduceAdd,Nat.reduceEqDiff,reduceIte,reduceCtorEq,de]);rfl) rfl rfl (by first | assumption | (simp[Value.oneCell',o.cU.enc,o.Ref.enc,o.Node.enc,o.Scalar.enc,o.Var.enc,o.dK.enc,o.Act.enc,o.dL.enc,o.dt.enc,o.kg.enc];done)) ?_
 | refine K.new ?_
 | refine K.hT (by assumption) rfl rfl (by first | assumption | (simp[Value.oneCell',o.cU.enc,o.Ref.enc,o.Node.enc,o.Scalar.enc,o.Var.enc,o.dK.enc,o.Act.enc,o.dL.enc,o.dt.enc,o.kg.enc];done)) ?_
 | refine K.st1 (by assumption) (Nat.le_of_ble_eq_true rfl) rfl ?_
 | refine K.sO (by assumption) (Nat.le_of_ble_eq_true rfl) rfl ?_
 | refine K.oy (by (simp only[e4,lay,oB,fD,b6,Value.cells,Nat.reduceAdd,Nat.reduceEqDiff,reduceIte,List.range,List.range.loop,List.map_cons,List.map_nil]);rfl) ?_
 | refine K.cP (by (simp only[e4,lay,oB,fD,b6,Value.cells,Nat.reduceAdd,Nat.reduceEqDiff,reduceIte]);rfl) ?_)
 exact q.out):A:=h ⟨k⟩
theorem eh{A B:Prop}(k:B)(h:uU B→A:=by
 intro q
 (repeat' first
 | assumption
 | exact Ext.refl _
 | refine Ext.trans ?_ (by assumption)
 | simp -dsimp only[c6,Nat.reduceAdd,Nat.reduceEqDiff,reduceIte,reduceCtorEq,de,uG,uF,ua,tZ,tx,tw,List.cons_append,List.nil_append]
 | refine K.wrap (by omega) ?_
 | refine K.sB (by assumption) ?_ rfl ?_
 | refine K.qd (by assumption) ?_ rfl ?_
 | refine K.tX (by omega) ?_
 | refine K.rZ (by first | assumption | omega) ?_
 | refine K.td (by first | assumption | omega) ?_
 | refine K.pX (by assumption) ?_
 | refine K.qR (by assumption) ?_
 | refine K.ud (by assumption) ?_ (by omega) rfl ?_
 | refine K.ue (by assumption) ?_ (by omega) rfl ?_
 | refine K.uc (by assumption) ?_ (by omega) rfl ?_
 | refine K.Mb (by assumption) ?_ rfl ?_
 | refine K.Ma (by assumption) ?_ rfl ?_
 | refine K.gX (by assumption) ?_ rfl ?_
 | refine K.sF (fun _=>by (simp -dsimp only[c6,Nat.reduceAdd,Nat.reduceEqDiff,reduceIte,reduceCtorEq,de]);rfl) rfl rfl (by first | assumption | (simp[Value.oneCell',o.cU.enc,o.Ref.enc,o.Node.enc,o.Scalar.enc,o.Var.enc,o.dK.enc,o.Act.enc,o.dL.enc,o.dt.enc,o.kg.enc];done)) ?_
 | refine K.new ?_
 | refine K.hT (by assumption) rfl rfl (by first | assumption | (simp[Value.oneCell',o.cU.enc,o.Ref.enc,o.Node.enc,o.Scalar.enc,o.Var.enc,o.dK.enc,o.Act.enc,o.dL.enc,o.dt.enc,o.kg.enc];done)) ?_
 | refine K.st1 (by assumption) (Nat.le_of_ble_eq_true rfl) rfl ?_
 | refine K.sO (by assumption) (Nat.le_of_ble_eq_true rfl) rfl ?_
 | refine K.oy (by (simp only[e4,lay,oB,fD,b6,Value.cells,Nat.reduceAdd,Nat.reduceEqDiff,reduceIte,List.range,List.range.loop,List.map_cons,List.map_nil]);rfl) ?_
 | refine K.cP (by (simp only[e4,lay,oB,fD,b6,Value.cells,Nat.reduceAdd,Nat.reduceEqDiff,reduceIte]);rfl) ?_)
 exact q.out):A:=h ⟨k⟩
end bt
end
section
namespace bt
open Go Go.RowKit
def gI(A:Nat→Prop)(p:World→Prop)(w:World):Prop := ∀w',Mod A w w'→p w'
theorem gI.here{A:Nat→Prop}{p:World→Prop}{w:World}(h:gI A p w):p w:=h w (Mod.refl A w)
theorem Mod.comp{A A' B:Nat→Prop}{a b c:World}(h:Mod A a b)(k:Mod A' b c)(h1:∀i,i<a.heap.size→A i→B i)(U:∀i,i<a.heap.size→A' i→B i):Mod B a c :=
 ⟨k.os.trans h.os,k.tape.trans h.tape,k.output.trans h.output,Nat.le_trans h.size k.size,fun i af aH=>(k.block i (Nat.lt_of_lt_of_le af h.size) fun e=>aH (U i af e)).trans (h.block i af fun e=>aH (h1 i af e))⟩
theorem gI.move{A A' B:Nat→Prop}{p:World→Prop}{w w':World}(h:gI B p w)(m:Mod A w w')(h1:∀i,i<w.heap.size→A i→B i)(U:∀i,i<w.heap.size→A' i→B i):gI A' p w' :=
 fun b1 k=>h b1 (m.comp k h1 U)
theorem gI.mono{A B:Nat→Prop}{p:World→Prop}{w:World}(h:gI B p w)(U:∀i,i<w.heap.size→A i→B i):gI A p w:=h.move (Mod.refl A w) U U
theorem gI.ext{B:Nat→Prop}{p:World→Prop}{w w':World}(h:gI B p w)(e:Ext w w')(jN:∀i,w.heap.size≤i→¬B i):gI B p w' :=
 h.move (A:=fun _=>False) e.mod (fun _ _ h=>h.elim) (fun _ _ h=>h)
theorem gI.imp{A:Nat→Prop}{p q:World→Prop}{w:World}(h:gI A p w)(Lm:∀w,p w→q w):gI A q w:=fun w' m=>Lm w' (h w' m)
theorem gI.and{A:Nat→Prop}{p q:World→Prop}{w:World}(h:gI A p w)(k:gI A q w):gI A (fun w=>p w∧q w) w:=fun w' m=>⟨h w' m,k w' m⟩
theorem gI.of{A:Nat→Prop}{p:World→Prop}{w:World}(h:∀w',p w'):gI A p w:=fun w' _=>h w'
abbrev e7(w:World)(p:World→Prop)(w':World):Prop:=gI (fun k=>k<w.heap.size) p w'
theorem e7.ext{w aq aU:World}{p:World→Prop}(h:e7 w p aq)(he:Ext aq aU)(ao:w.heap.size≤aq.heap.size):e7 w p aU :=
 gI.ext h he fun i af hk=>by omega
theorem e7.low{w w0 aq:World}{p:World→Prop}(h:e7 w p aq)(ao:w0.heap.size≤w.heap.size):e7 w0 p aq:=h.mono fun i _ af=>by omega
theorem e7.wr{w aq aU:World}{p:World→Prop}{b:Nat}(h:e7 w p aq)(hw:dz b aq aU)(aB:b<w.heap.size):e7 w p aU :=
 gI.move h (A:=fun k=>k=b) (hw.mod rfl) (fun i _ e=>by omega) (fun i _ e=>e)
theorem e7.and{w aq:World}{p q:World→Prop}(h:e7 w p aq)(k:e7 w q aq):e7 w (fun w=>p w∧q w) aq:=gI.and h k
theorem e7.imp{w aq:World}{p q:World→Prop}(h:e7 w p aq)(Lm:∀w,p w→q w):e7 w q aq:=gI.imp h Lm
class Rel{α:Type}(R:World→Addr→α→Prop)(C:outParam (World→List Value→α→Prop))(sz:outParam Nat):Prop where
 out:∀{w a x},R w a x→∃cs,eB w a cs∧C w cs x
 nY:∀{w a cs x},eB w a cs→C w cs x→R w a x
 len:∀{w cs x},C w cs x→cs.length=sz
 one:∀{w cs x},C w cs x→∀u∈cs,u.oneCell'=true
 ext:∀{w w' cs x},Ext w w'→C w cs x→C w' cs x
abbrev o0(sz:Nat):={cs:List Value // cs.length=sz∧∀u∈cs,u.oneCell'=true}
def ti{sz:Nat}(c:o0 sz):List Value:=c.1
theorem zm{sz:Nat}(c:o0 sz):(ti c).length=sz:=c.2.1
theorem R2{sz:Nat}(c:o0 sz):∀u∈ti c,u.oneCell'=true:=c.2.2
abbrev Bn(e:TypeId)(sz base:Nat)(w:World)(v:Value)(fg:List (o0 sz)):Prop:=bg ti e sz base w v fg
theorem bG.cells{α:Type}{R:World→Addr→α→Prop}{C:World→List Value→α→Prop}{sz:Nat}[Rel R C sz]{w:World}{v:Value}{xs:List α}(h:bG sz R w v xs) :
  ∃fg:List (o0 sz),fg.length=xs.length∧bG sz (Flat ti) w v fg∧∀i (h1:i<fg.length) (U:i<xs.length),C w fg[i].1 xs[i]:=by
 obtain⟨bm,cap,rfl,h1,U,ah,aJ⟩:=h.ex;obtain⟨fg,a1,aw⟩:=Vp xs.length (fun i (c:o0 sz)=>(∀a,bm=some a→eB w (a.add (i*sz)) c.1)∧∀(h:i<xs.length),C w c.1 xs[i]) fun i af=>by
  obtain⟨a,rfl⟩:=Option.isSome_iff_exists.1 (ah (by intro e;subst e;simp at af));obtain⟨cs,c1,c2⟩:=Rel.out (aJ a rfl i af);exact⟨⟨cs,Rel.len (R:=R) c2,Rel.one (R:=R) c2⟩,fun cX e=>by injection e with e;subst e;exact c1,fun _=>c2⟩
 refine⟨fg,a1,⟨bm,cap,by rw[a1],by omega,U,fun aH=>ah (by intro e;subst e;simp at a1;exact aH a1),fun a bu i af=>(aw i af).1 a bu⟩,fun i h1 U=>(aw i h1).2 U⟩
theorem bG.Mr{α:Type}{R:World→Addr→α→Prop}{C:World→List Value→α→Prop}{sz:Nat}[Rel R C sz]{w:World}{v:Value}{xs:List α}{fg:List (o0 sz)}(a1:fg.length=xs.length)(h:bG sz (Flat ti) w v fg)
  (aw:∀i (h1:i<fg.length) (U:i<xs.length),C w fg[i].1 xs[i]):bG sz R w v xs:=by
 obtain⟨bm,cap,rfl,h1,U,ah,aJ⟩:=h.ex;refine⟨bm,cap,by rw[a1],by omega,U,fun aH=>ah (by intro e;subst e;simp at a1;exact aH (List.eq_nil_of_length_eq_zero a1.symm)),fun a bu i af=>Rel.nY (aJ a bu i (by omega)) (aw i (by omega) af)⟩
theorem K.u0{P:Program}{di:Value→World→Prop}{α:Type}{enc:α→List Value}{e:TypeId}{sz base:Nat}{w:World}{xs:List α}{ty:TypeId}{b:Nat}{s:Value}{a:Addr}{m c:Nat}{ys:List α}{t}(aG:bg enc e sz base w s xs)(dn:∀x,(enc x).length=sz)(aw:eB w a (ys.flatMap enc))(hm:m=ys.length)
  (h1:∀y,∀u∈enc y,u.oneCell'=true)(aB:(xs.length+ys.length)*b≤140737488355328)(mA:xs.length+ys.length≤maxLen)(lD:base≤w.heap.size)
  (hk:∀ck w',bg enc e sz base w' ck (xs++ys)→w.grownBy w' s.ownBlock→(ck.ownBlock=s.ownBlock∨ck.ownBlock=some w.heap.size)→di ck w'):mg P ty e sz b s (.slice (some a) m c) w di t:=by
 subst hm;refine K.app fun⟨aL,i,z,af,bL,Dn,CK,Ac,LA⟩=>?_;obtain⟨ck,w',bd,U,ah,_,bk⟩:=run_append_own_at (P:=P) w base ty ty e i z sz b aL af bL Dn CK Ac LA s _ _ aG a _ c _ (xd dn ys) aw (fun u hu=>by obtain⟨y,_,bS⟩:=List.mem_flatMap.1 hu;exact h1 y u bS) mA aB lD;refine⟨ty,ck,w',bd,hk ck w' ?_ ah bk⟩;unfold bg;rw[List.length_append,List.flatMap_append];exact U
def wE(v:Value)(base k:Nat):Prop:=v.ownBlock=some k∨k<base
structure fM{α:Type}(C:World→List Value→α→Prop)(e:TypeId)(sz base:Nat)(w:World)(v:Value)(xs:List α):Prop where
 ex:∃fg:List (o0 sz),fg.length=xs.length∧Bn e sz base w v fg∧∀i (h1:i<fg.length) (U:i<xs.length),gI (wE v base) (fun w=>C w fg[i].1 xs[i]) w
section
variable{α:Type}{C:World→List Value→α→Prop}{e:TypeId}{sz base:Nat}{w w':World}{v:Value}{xs:List α}
theorem fM.nil(C:World→List Value→α→Prop)(e:TypeId)(sz base:Nat)(w:World):fM C e sz base w (.slice none 0 0) []:=⟨[],rfl,bg.nil _ _ _ _ _,fun i h=>by cases h⟩
theorem fM.form(h:fM C e sz base w v xs):∃bm cap,v = .slice bm xs.length cap∧xs.length≤cap∧cap≤maxLen:=by
 obtain⟨fg,a1,aZ,_⟩:=h.ex;obtain⟨bm,cap,h1,U,ah⟩:=aZ.form;exact⟨bm,cap,by rw[h1,a1],by omega,ah⟩
theorem fM.lt(h:fM C e sz base w v xs):∀k,v.ownBlock=some k→base≤k∧k<w.heap.size:=by
 obtain⟨fg,a1,aZ,_⟩:=h.ex;exact aZ.lt
theorem bg.mod{enc:α→List Value}{A:Nat→Prop}(h:bg enc e sz base w v xs)(m:Mod A w w')(ed:∀k,v.ownBlock=some k→¬A k):bg enc e sz base w' v xs:=by
 refine⟨h.1,?_⟩;rcases h.2 with aH | ⟨g,cap,cur,rfl,aB,aV,rest⟩
 ·exact .inl aH
 ·exact .inr ⟨g,cap,cur,rfl,aB,m.obj (ed g rfl) aV,rest⟩
theorem bg.aQ{enc:α→List Value}(h:bg enc e sz base w v xs):∀k,v.ownBlock=some k→∃cur,w.heap[k]? = some (.cells cur e):=fun k hk=>by
 rcases h.2 with ⟨rfl,_⟩ | ⟨g,cap,cur,rfl,aB,aV,rest⟩
 ·cases hk
 ·simp only[Value.ownBlock,Option.some.injEq] at hk;subst hk;exact⟨cur,aV⟩
theorem fM.mod{A:Nat→Prop}(h:fM C e sz base w v xs)(m:Mod A w w')(ed:∀k,k<w.heap.size→A k→k<base):fM C e sz base w' v xs:=by
 obtain⟨fg,a1,aZ,aw⟩:=h.ex;refine⟨fg,a1,aZ.mod m fun k hk a=>?_,fun i h1 U=>(aw i h1 U).move m (fun i af a=>.inr (ed i af a)) fun _ _ a=>a⟩
 have:=aZ.lt k hk
 have:=ed k this.2 a
 omega
theorem fM.ext(h:fM C e sz base w v xs)(m:Ext w w'):fM C e sz base w' v xs:=h.mod (A:=fun _=>False) m.mod fun _ _ h=>h.elim
theorem fM.new{R:World→Addr→α→Prop}[Rel R C sz](h:fM C e sz base w v xs):gI (fun k=>k<base) (fun w=>bG sz R w v xs) w:=fun w' m=>by
 have bK:=h.mod m fun k _ a=>a;obtain⟨fg,a1,aZ,aw⟩:=bK.ex;exact bG.Mr a1 (aZ.od zm) fun i h1 U=>(aw i h1 U).here
theorem fM.od{R:World→Addr→α→Prop}[Rel R C sz](h:fM C e sz base w v xs):bG sz R w v xs:=(h.new (R:=R)).here
theorem fM.under(h:fM C e sz base w v xs)(aB:base≤w.heap.size):∀k,wE v base k→k<w.heap.size:=fun k hk=>by
 rcases hk with hk | hk
 ·exact(h.lt k hk).2
 ·omega
theorem e7.own{p:World→Prop}{aq:World}(aH:e7 w p aq)(h:fM C e sz base w v xs)(aB:base≤w.heap.size):gI (wE v base) p aq:=aH.mono fun i _ af=>h.under aB i af
theorem fM.j2{w0:World}(aZ:fM C e sz base w v xs)(he:Ext w0 w)(aV:w.grownBy w' v.ownBlock)(aB:w0.heap.size≤base):Ext w0 w':=he.grown aV fun k hk=>Nat.le_trans aB (aZ.lt k hk).1
theorem K.BC{P:Program}{di:Value→World→Prop}{ty:TypeId}{b:Nat}{a:Addr}{c:Nat}{cs:List Value}{x:α}{t}(aG:fM C e sz base w v xs)(aw:eB w a cs)(cv:gI (wE v base) (fun w=>C w cs x) w)
  (dn:cs.length=sz)(h1:∀u∈cs,u.oneCell'=true)(aB:(xs.length+1)*b≤140737488355328)(mA:xs.length+1≤maxLen)(lD:base≤w.heap.size)
  (hk:∀ck w',fM C e sz base w' ck (xs++[x])→w.grownBy w' v.ownBlock→di ck w'):mg P ty e sz b v (.slice (some a) 1 c) w di t:=by
 obtain⟨fg,a1,aZ,kH⟩:=aG.ex;refine K.u0 (enc:=ti) (ys:=[(⟨cs,dn,h1⟩:o0 sz)]) aZ zm (by simpa[ti] using aw) rfl R2 (by rw[a1];exact aB) (by rw[a1];exact mA) lD fun ck w' mF aV je=>hk ck w' ⟨fg++[⟨cs,dn,h1⟩],by simp[a1],mF,fun i h1 U=>?_⟩ aV;have hm:Mod (fun k=>v.ownBlock=some k) w w':=Mod.grown aV fun k hk=>hk;have gM:∀k,k<w.heap.size→ck.ownBlock=some k→wE v base k:=fun k hk he=>by
  rcases je with e | e
  ·exact .inl (e ▸ he)
  ·rw[e] at he;injection he with he;omega
 have key:∀{p:World→Prop},gI (wE v base) p w→gI (wE ck base) p w':=fun {p} h=>h.move hm (fun i _ a=>.inl a) fun i af a=>by
  rcases a with a | a
  ·exact gM i af a
  ·exact .inr a
 rw[List.length_append] at h1 U;by_cases af:i<fg.length
 ·have eP:i<xs.length:=by omega
  have:=key (kH i af eP)
  simpa[List.getElem_append,af,eP] using this
 ·have b2:i=fg.length:=by simp at h1;omega
  subst b2;have ba:¬fg.length<xs.length:=by omega
  have:=key cv
  simpa[List.getElem_append,ba] using this
end
section
variable{α:Type}{enc:α→List Value}{e:TypeId}{sz base:Nat}{w w':World}{v:Value}{xs:List α}
theorem bg.box{t:TypeId}{k:Nat}{c:Array Value}(aZ:bg enc e sz base w v xs)(aV:w.grownBy w' v.ownBlock)(hk:w.heap[k]? = some (.cells c t))(aL:t≠e):w'.heap[k]? = some (.cells c t):=by
 rw[aV.block k (cy hk) fun e'=>?_]
 ·exact hk
 ·obtain⟨cur,h⟩:=aZ.aQ k e'.symm;rw[hk] at h;injection h with h;injection h with _ h;exact aL h
theorem bg.j2{w0:World}(aZ:bg enc e sz base w v xs)(he:Ext w0 w)(aV:w.grownBy w' v.ownBlock)(aB:w0.heap.size≤base):Ext w0 w':=he.grown aV fun k hk=>Nat.le_trans aB (aZ.lt k hk).1
theorem K.ki{P:Program}{di:Value→World→Prop}{ty:TypeId}{hJ b:Nat}{y:α}{cs:List Value}{t}(aG:bg enc e sz base w v xs)(aw:w.heap[b]? = some (.cells cs.toArray e))(iN:cs=enc y)(dn:∀x,(enc x).length=sz)(h1:∀y,∀u∈enc y,u.oneCell'=true)
  (aB:(xs.length+1)*hJ≤140737488355328)(mA:xs.length+1≤maxLen)(lD:base≤w.heap.size)
  (hk:∀bm n c w',bg enc e sz base w' (.slice bm n c) (xs++[y])→w.grownBy w' v.ownBlock→di (.slice bm n c) w'):mg P ty e sz hJ v (.slice (some ⟨b,0,none⟩) 1 1) w di t:=by
 refine K.u0 (ys:=[y]) aG dn (by subst iN;simpa using h4 aw) rfl h1 aB mA lD fun ck w' aZ aV _=>?_;obtain⟨bm,cap,rfl,_⟩:=aZ.form;exact hk _ _ _ _ aZ aV
end
theorem M4{α:Type}{l:List α}{k b:Nat}(hk:k<l.length)(aB:l.length*b≤140737488351232)(hm:l.length≤9223372036854775807):((l.take k).length+1)*b≤140737488355328∧(l.take k).length+1≤maxLen:=by
 have e:(l.take k).length=k:=by rw[List.length_take];omega
 rw[e]
 have:=Nat.mul_le_mul_right b (show k+1≤l.length from hk)
 exact⟨by omega,by unfold maxLen;omega⟩
theorem fM.snoc{α:Type}{C:World→List Value→α→Prop}{e:TypeId}{sz base:Nat}{w:World}{v:Value}{l:List α}{k:Nat}(hk:k<l.length)(h:fM C e sz base w v (l.take k++[l[k]])):fM C e sz base w v (l.take (k+1)):=by
 rw[List.take_succ_eq_append_getElem hk];exact h
theorem fM.done{α:Type}{C:World→List Value→α→Prop}{e:TypeId}{sz base:Nat}{w:World}{v:Value}{l:List α}{k:Nat}(hk:l.length≤k)(h:fM C e sz base w v (l.take k)):fM C e sz base w v l:=by
 rwa[List.take_of_length_le hk] at h
end bt
end
section
namespace bt
open Go Go.RowKit
inductive iI where
 | i
 | b
 | s
deriving DecidableEq
def iI.of:TypeDesc→Option iI
 | .int .i64=>some .i
 | .bool=>some .b
 | .string=>some .s
 | _=>none
theorem iI.agz{qt:TypeDesc}(h:iI.of qt=some .i):qt = .int .i64:=by unfold iI.of at h;split at h<;>simp_all
theorem iI.agy{qt:TypeDesc}(h:iI.of qt=some .b):qt = .bool:=by unfold iI.of at h;split at h<;>simp_all
theorem iI.agA{qt:TypeDesc}(h:iI.of qt=some .s):qt = .string:=by unfold iI.of at h;split at h<;>simp_all
def iI.ok:iI→Value→Prop
 | .i,v => ∃n,v = .int .i64 n
 | .b,v => ∃n,v = .bool n
 | .s,v => ∃n,v = .string n
def pY:List iI→List Value→Prop
 | [],[]=>True
 | k :: qc,v :: vs=>k.ok v∧pY qc vs
 | _,_=>False
theorem Jv:∀{qc:List iI} {vs:List Value},pY qc vs→vs.length=qc.length
 | [],[],_=>rfl
 | _ :: _,_ :: _,h=>by simp[Jv h.2]
 | [],_ :: _,h=>h.elim
 | _ :: _,[],h=>h.elim
def zt(P:Program):List Field→List iI→Nat→Bool
 | [],[],_=>true
 | f :: gg,k :: qc,n=>f.name != "_" && f.offset == n&&((P.underlying f.type).bind iI.of == some k)&&zt P gg qc (n+1)
 | _,_,_=>false
def Gi(P:Program)(t:TypeId)(sig:List iI):Bool :=
 match P.underlying t with
 | some (.struct gg) => !P.stoodInHeld t && !P.eqGuardType P.depth t&&zt P gg.toList sig 0
 | _=>false
theorem drop_cons{α:Type}{l:List α}{n:Nat}{x:α}{r:List α}(h:l.drop n=x :: r):l[n]? = some x∧l.drop (n+1)=r:=by
 have h1:l[n]? = some x:=by
  have:=congrArg (·[0]?) h
  simpa using this
 refine⟨h1,?_⟩
 have:=congrArg (List.drop 1) h
 simpa[List.drop_drop] using this
theorem R5{P:Program}(w:World)(d:Nat)(xs ys:Array Value):∀(gg:List Field) (qc:List iI) (n:Nat),zt P gg qc n=true→pY qc (xs.toList.drop n)→pY qc (ys.toList.drop n) →
  ∃r:Bool,(Op.eqFields (d+1) xs ys gg).run P w = .ok r w∧(r=true↔xs.toList.drop n=ys.toList.drop n)
 | [],[],n,_,av,bS=>by
  refine⟨true,by simp[Op.eqFields],?_⟩;have h1:=Jv av;have U:=Jv bS;rw[List.eq_nil_of_length_eq_zero h1,List.eq_nil_of_length_eq_zero U];simp
 | [],_ :: _,_,h,_,_=>by simp[zt] at h
 | _ :: _,[],_,h,_,_=>by simp[zt] at h
 | f :: gg,k :: qc,n,h,av,bS=>by
  simp only[zt,Bool.and_eq_true,bne_iff_ne,ne_eq,beq_iff_eq] at h;obtain⟨⟨⟨h1,U⟩,ah⟩,aJ⟩:=h;obtain⟨qt,hu,hk⟩:=Option.bind_eq_some_iff.1 ah;cases KK:xs.toList.drop n with
  | nil=>rw[KK] at av;exact av.elim
  | cons x rx =>
   cases KL:ys.toList.drop n with
   | nil=>rw[KL] at bS;exact bS.elim
   | cons y WK =>
    rw[KK] at av;rw[KL] at bS;obtain⟨ex,Sg⟩:=drop_cons KK;obtain⟨vi,Sh⟩:=drop_cons KL;obtain⟨r,bd,TI⟩:=R5 w d xs ys gg qc (n+1) aJ (by rw[Sg];exact av.2) (by rw[Sh];exact bS.2);have bu:qL P f.type=some false:=by
     unfold qL;rw[hu];cases qt<;>simp[iI.of] at hk<;>rfl
    have aaP:xs[n]? = some x:=by rw[←Array.getElem?_toList];exact ex
    have abc:ys[n]? = some y:=by rw[←Array.getElem?_toList];exact vi
    have ahn:(part f.type xs f.offset).run P w = .ok x w:=by simp[part,vZ bu,U,aaP]
    have aho:(part f.type ys f.offset).run P w = .ok y w:=by simp[part,vZ bu,U,abc]
    have Mx:∃q:Bool,(Op.equalIn (d+1) f.type x y).run P w = .ok q w∧(q=true↔x=y):=by
     cases k with
     | i =>
      obtain⟨a,rfl⟩:=av.1;obtain⟨b,rfl⟩:=bS.1;have aL:=iI.agz hk;subst aL;exact⟨_,run_equalIn_int w d f.type .i64 .i64 a b hu,by simp⟩
     | b =>
      obtain⟨a,rfl⟩:=av.1;obtain⟨b,rfl⟩:=bS.1;have aL:=iI.agy hk;subst aL;exact⟨_,run_equalIn_bool' w d f.type a b hu,by simp⟩
     | s =>
      obtain⟨a,rfl⟩:=av.1;obtain⟨b,rfl⟩:=bS.1;have aL:=iI.agA hk;subst aL;exact⟨_,run_equalIn_string w d f.type a b hu,by rw[←beq_toListBytes];simp⟩
    obtain⟨q,aR,Ln⟩:=Mx;refine⟨q&&r,?_,?_⟩
    ·simp only[Op.eqFields,h1,ne_eq,not_false_eq_true,if_true,Sem.run_bind,ahn,aho,aR,Result.andThen_ok];cases q
     ·simp
     ·simpa using bd
    ·rw[Sg,Sh] at TI;simp only[Bool.and_eq_true,Ln,TI,List.cons.injEq]
theorem WB{P:Program}{t:TypeId}{sig:List iI}(h:Gi P t sig=true)(w:World){xs ys:List Value}(av:pY sig xs)(bS:pY sig ys)(x y:Operand) :
  ∃r:Bool,(r=true↔xs=ys)∧∀w,(do eqGuard .eql t x y (.agg xs.toArray) (.agg ys.toArray);binOp .eql t (.agg xs.toArray) (.agg ys.toArray):Sem Value).run P w = .ok (.bool r) w ∧
   (do eqGuard .neq t x y (.agg xs.toArray) (.agg ys.toArray);binOp .neq t (.agg xs.toArray) (.agg ys.toArray):Sem Value).run P w = .ok (.bool (!r)) w:=by
 unfold Gi at h;cases hu:P.underlying t with
 | none=>rw[hu] at h;cases h
 | some qt =>
  cases qt<;>simp[hu] at h;rename_i gg;obtain⟨⟨h1,U⟩,ah⟩:=h;have TE:P.fieldsOf t=gg:=by simp[Program.fieldsOf,hu]
  have key:∀w,∃r:Bool,(Op.equalIn 10000 t (.agg xs.toArray) (.agg ys.toArray)).run P w = .ok r w∧(r=true↔xs=ys):=fun w=>by
   obtain⟨r,bd,af⟩:=R5 (P:=P) w 9998 xs.toArray ys.toArray gg.toList sig 0 ah (by simpa using av) (by simpa using bS);refine⟨r,?_,by simpa using af⟩;rw[run_equalIn_struct w 9999 t _ _ (by rw[TE];exact hu) h1,TE];exact bd
  obtain⟨r,_,af⟩:=key w;refine⟨r,af,fun w'=>?_⟩;obtain⟨fI,xM,cS⟩:=key w'
  have:fI=r:=by
   rcases Bool.eq_false_or_eq_true r with e | e
   ·rw[e];exact cS.2 (af.1 e)
   ·rw[e];exact Bool.eq_false_iff.2 fun h=>by rw[af.2 (cS.1 h)] at e;cases e
  subst this;refine⟨?_,?_⟩
  ·simp only[Sem.run_bind,run_eqGuard_agg w' .eql t x y _ _ U,Result.andThen_ok,run_eql_struct,xM]
  ·simp only[Sem.run_bind,run_eqGuard_agg w' .neq t x y _ _ U,Result.andThen_ok,run_neq_struct,xM]
section
variable{P:Program}{aE:Value→Prop}{cV c3:Operand}
theorem K.aaL{t:TypeId}{sig:List iI}{xs ys:List Value}{qu}(h:Gi P t sig=true)(av:pY sig xs)(bS:pY sig ys)(hk:∀r:Bool,(r=true↔xs=ys)→aE (.bool r)):gj P .eql t cV c3 (.agg xs.toArray) (.agg ys.toArray) aE qu:=by
 obtain⟨r,h1,U⟩:=WB h default av bS cV c3;exact K.bin (fun w=>(U w).1) (hk r h1)
theorem K.VA{t:TypeId}{sig:List iI}{xs ys:List Value}{qu}(h:Gi P t sig=true)(av:pY sig xs)(bS:pY sig ys)(hk:∀r:Bool,(r=true↔xs≠ys)→aE (.bool r)):gj P .neq t cV c3 (.agg xs.toArray) (.agg ys.toArray) aE qu:=by
 obtain⟨r,h1,U⟩:=WB h default av bS cV c3;exact K.bin (fun w=>(U w).2) (hk (!r) (by rw[ne_eq,←h1];cases r<;>simp))
theorem K.aaK{t e:TypeId}{a:Option Addr}{l c:Nat}{qu}(h:P.underlying t=some (.slice e))(hk:aE (.bool a.isNone)):gj P .eql t cV c3 (.slice a l c) (.slice none 0 0) aE qu :=
 K.bin (v:=.bool a.isNone) (fun w=>by simp[eqGuard_at_slice,binOp,run_equal_slice_nil w t e a l c h]) hk
end
end bt
end
section
namespace bt
open Go Go.RowKit
section
variable{P:Program}{w0 w:World}{S:Fr}{K:Fr→World→Prop}
def strip:eD→List Step×eD
 | .take s r=>(s :: (strip r).1,(strip r).2)
 | t=>([],t)
theorem ES:∀(t:eD) (S:Fr),rC P (strip t).1 S w0 (fun a8=>nv P w0 (strip t).2 a8 w K)→nv P w0 t S w K
 | .take ⟨d,none,i⟩ r,S,h=>by
  show lP P i S w0 fun v=>nv P w0 r (put S d v) w K;have bK:lP P i S w0 fun v=>rC P (strip r).1 (put S d v) w0 (fun a8=>nv P w0 (strip r).2 a8 w K):=h;exact lP.mono (fun v aO=>ES r _ aO) bK
 | .take ⟨d,some (j,b),i⟩ r,S,h=>by
  rcases h with ⟨t,aL,h1,U⟩ | ⟨hu,ah⟩
  ·exact .inl ⟨t,aL,fun e=>lP.mono (fun v aO=>ES r _ aO) (h1 e),fun e=>ES r _ (U e)⟩
  ·exact .inr ⟨hu,ES r _ ah⟩
 | .done,S,h=>h
 | .nil,S,h=>h
 | .alt _ _ _,S,h=>h
 | .bT _ _ _,S,h=>h
 | .wide _,S,h=>h
theorem W9{b n:Nat}{c cs:Array Value}{e:TypeId}{gq:World→Prop}(aB:w.heap[b]? = some (.cells c e))(aw:c.size=n)(aH:cs.size=n)(h1:∀x∈cs.toList,x.oneCell'=true)
  (hk:∀aq,dz b w aq→aq.heap[b]? = some (.cells cs e)→gq aq):yR n (.pointer (some ⟨b,0,none⟩)) (.agg cs) w gq :=
 Nl aH (fun j aI=>⟨⟨_,eN aB (Array.getElem?_eq_getElem (by omega))⟩,by rw[add_eq];simp[World.frozen?,aB]⟩) h1 (hk _ (dz.kv cs.toList w ⟨b,0,none⟩ 0) (WW aB (by omega)))
structure rO where
 d:Nat
 ty:TypeId
 z:Array Value
 n:Nat
 x:Nat
def rO.new(v:rO):Step:=⟨some v.d,none,.e (.new v.ty (.agg v.z))⟩
def rO.st(v:rO):Step:=⟨none,none,.e (.qs v.n (.tmp v.d) (.tmp v.x))⟩
theorem YF(v:rO)(k:Fr→World→Prop):BB P w0 v.st S w k=yR v.n (S v.d) (S v.x) w (fun w'=>Ext w0 w'∧k S w'):=rfl
theorem abp(v:rO)(k:Fr→World→Prop):lC P v.st S w k=yR v.n (S v.d) (S v.x) w (fun w'=>k S w'):=rfl
def Xs(a b:rO):eD :=
 .alt a.new (.alt b.new (.alt a.st (.bT b.st .done .nil) .nil) .nil) (.alt b.new (.alt a.new (.alt a.st (.bT b.st .done .nil) .nil) .nil) .nil)
theorem ajA(S:Fr){a b:Nat}(h:a≠b)(x y:Value):cc (cc S a x) b y=cc (cc S b y) a x:=by
 funext t;unfold cc;split<;>split<;>simp_all
theorem aju(a b:rO){mV ny:List Value}(bx:(a.d != b.d&&a.x != a.d&&a.x != b.d&&b.x != a.d&&b.x != b.d)=true)(LS:a.z.size=a.n)(LU:b.z.size=b.n)(bu:S a.x = .agg mV.toArray)(aB:S b.x = .agg ny.toArray)(adV:mV.length=a.n)(TQ:ny.length=b.n)
  (abQ:∀u∈mV,u.oneCell'=true)(abR:∀u∈ny,u.oneCell'=true)
  (hk:∀w' gS hJ,Ext w0 w'→w0.heap.size≤gS→w0.heap.size≤hJ→gS≠hJ→w'.heap[gS]? = some (.cells mV.toArray a.ty)→w'.heap[hJ]? = some (.cells ny.toArray b.ty) →
   K (cc (cc S a.d (.pointer (some ⟨gS,0,none⟩))) b.d (.pointer (some ⟨hJ,0,none⟩))) w'):nv P w0 (Xs a b) S w0 K:=by
 simp only[Bool.and_eq_true,bne_iff_ne,ne_eq] at bx;obtain⟨⟨⟨⟨d1,d2⟩,d3⟩,d4⟩,d5⟩:=bx;have fin:∀(a8:Fr) (aU:World) (gS hJ:Nat),a8=cc (cc S a.d (.pointer (some ⟨gS,0,none⟩))) b.d (.pointer (some ⟨hJ,0,none⟩))→Ext w0 aU→w0.heap.size≤gS→w0.heap.size≤hJ→gS≠hJ →
   aU.heap[gS]? = some (.cells a.z a.ty)→aU.heap[hJ]? = some (.cells b.z b.ty)→nv P w0 (.alt a.st (.bT b.st .done .nil) .nil) a8 aU K:=by
  rintro a8 aU gS hJ rfl he h1 U cH CP np;refine⟨?_,trivial⟩;have b2:cc (cc S a.d (.pointer (some ⟨gS,0,none⟩))) b.d (.pointer (some ⟨hJ,0,none⟩)) a.d = .pointer (some ⟨gS,0,none⟩):=by simp[cc,d1]
  have ba:cc (cc S a.d (.pointer (some ⟨gS,0,none⟩))) b.d (.pointer (some ⟨hJ,0,none⟩)) a.x = .agg mV.toArray:=by simp[cc,d2,d3,bu]
  have bz:cc (cc S a.d (.pointer (some ⟨gS,0,none⟩))) b.d (.pointer (some ⟨hJ,0,none⟩)) b.d = .pointer (some ⟨hJ,0,none⟩):=by simp[cc]
  have bX:cc (cc S a.d (.pointer (some ⟨gS,0,none⟩))) b.d (.pointer (some ⟨hJ,0,none⟩)) b.x = .agg ny.toArray:=by simp[cc,d4,d5,aB]
  rw[YF,b2,ba];refine W9 CP LS (by simpa using adV) (by simpa using abQ) fun aY fk bB=>⟨fk.ext he h1,?_⟩;refine⟨?_,trivial⟩;rw[abp,bz,bX];refine W9 (fk.obj np (Ne.symm cH)) LU (by simpa using TQ) (by simpa using abR) fun bo eu bH=>?_;exact hk bo gS hJ (eu.ext (fk.ext he h1) U) h1 U cH (eu.obj bB cH) bH
 have m1:∀(ak o':Obj),((w0.alloc ak).alloc o').heap[w0.heap.size]? = some ak:=fun ak o'=>((Ext.refl (w0.alloc ak)).alloc o').obj (heap_alloc_new w0 ak);have m2:∀(ak o':Obj),((w0.alloc ak).alloc o').heap[w0.heap.size+1]? = some o':=fun ak o'=>by
  have:=heap_alloc_new (w0.alloc ak) o'
  rwa[World.size_alloc] at this
 refine⟨⟨(Ext.refl _).alloc _,⟨((Ext.refl _).alloc _).alloc _,?_⟩,trivial⟩,⟨(Ext.refl _).alloc _,⟨((Ext.refl _).alloc _).alloc _,?_⟩,trivial⟩,trivial⟩
 ·refine fin _ _ w0.heap.size (w0.heap.size+1) ?_ (((Ext.refl _).alloc _).alloc _) (Nat.le_refl _) (by omega) (by omega) (m1 _ _) (m2 _ _);show cc (cc S a.d _) b.d (.pointer (some ⟨(w0.alloc _).heap.size,0,none⟩))=_;rw[World.size_alloc]
 ·refine fin _ _ (w0.heap.size+1) w0.heap.size ?_ (((Ext.refl _).alloc _).alloc _) (by omega) (Nat.le_refl _) (by omega) (m2 _ _) (m1 _ _);show cc (cc S b.d _) a.d (.pointer (some ⟨(w0.alloc _).heap.size,0,none⟩))=_;rw[World.size_alloc,ajA S (Ne.symm d1)]
theorem K.two{Q:dS→Fr→World→Prop}{t:eD}{gk:e1}{qu}(l:List Step)(pZ:Nat)(Nr:TypeId)(E7:Array Value)(uo rA p0:Nat)(tb:TypeId)(E8:Array Value)(n0 qk:Nat)(aL:strip t=(l,Xs ⟨pZ,Nr,E7,uo,rA⟩ ⟨p0,tb,E8,n0,qk⟩))(bx:(pZ != p0&&rA != pZ&&rA != p0&&qk != pZ&&qk != p0)=true)(LS:E7.size=uo)(LU:E8.size=n0)
  (hk:∀aq,Ext w aq→lI P l S aq (fun a8 => ∃mV ny:List Value,a8 rA = .agg mV.toArray∧a8 qk = .agg ny.toArray∧mV.length=uo∧ny.length=n0∧(∀u∈mV,u.oneCell'=true)∧(∀u∈ny,u.oneCell'=true) ∧
   ∀w' gS hJ,Ext aq w'→aq.heap.size≤gS→aq.heap.size≤hJ→gS≠hJ→w'.heap[gS]? = some (.cells mV.toArray Nr)→w'.heap[hJ]? = some (.cells ny.toArray tb) →
    dR P gk Q (cc (cc a8 pZ (.pointer (some ⟨gS,0,none⟩))) p0 (.pointer (some ⟨hJ,0,none⟩))) w' ⟨⟩) ⟨⟩):dR P (.seq (.dW t) gk) Q S w qu:=by
 unfold dR lI at *;show eg P (.dW t) _ S w;intro aq he;refine ES t S ?_;have h:=hk aq he;rw[aL];refine AM l S aq _ _ (fun a8 _ bK=>?_) h;obtain⟨mV,ny,h1,U,ah,aJ,bk,bY,cO⟩:=bK;exact aju ⟨pZ,Nr,E7,uo,rA⟩ ⟨p0,tb,E8,n0,qk⟩ bx LS LU h1 U ah aJ bk bY fun w' gS hJ b2 ba bz bX ca c7=>cO w' gS hJ b2 ba bz bX ca c7
def hv(w0 w w':World)(p:World→Prop):Prop := ∀b1,Ext w0 b1→w'.heap.size≤b1.heap.size→(∀k,w.heap.size≤k→k<w'.heap.size→b1.heap[k]? = w'.heap[k]?)→p b1
structure akq(w0:World)(a b:rO)(S:Fr)(rA qk:List Value→World→Prop)(jK JN uo n0:Bool)(a8:Fr)(w:World)(mV ny:List Value)(ns bu gy aB ux uy:Nat):Prop where
 ext:Ext w0 w
 nh:∀t,t≠a.d→t≠b.d→t≠a.x→t≠b.x→a8 t=S t
 dG:jK=true→a8 a.x = .agg mV.toArray∧mV.length=a.n∧(∀u∈mV,u.oneCell'=true)∧bu≤w.heap.size∧∀b1,Ext w0 b1→w.heap.size≤b1.heap.size→(∀k,ns≤k→k<bu→b1.heap[k]? = w.heap[k]?)→rA mV b1
 bE:JN=true→a8 b.x = .agg ny.toArray∧ny.length=b.n∧(∀u∈ny,u.oneCell'=true)∧aB≤w.heap.size∧∀b1,Ext w0 b1→w.heap.size≤b1.heap.size→(∀k,gy≤k→k<aB→b1.heap[k]? = w.heap[k]?)→qk ny b1
 a2:uo=true→a8 a.d = .pointer (some ⟨ux,0,none⟩)∧w0.heap.size≤ux∧ux<w.heap.size∧w.heap[ux]? = some (.cells a.z a.ty)
 cp:n0=true→a8 b.d = .pointer (some ⟨uy,0,none⟩)∧w0.heap.size≤uy∧uy<w.heap.size∧w.heap[uy]? = some (.cells b.z b.ty)
 jE:jK=true→uo=true→ux<ns∨bu≤ux
 kV:jK=true→n0=true→uy<ns∨bu≤uy
 gS:JN=true→uo=true→ux<gy∨aB≤ux
 hJ:JN=true→n0=true→uy<gy∨aB≤uy
 amE:uo=true→n0=true→ux≠uy
structure akp(a b:rO):Prop where
 d12:a.d≠b.d
 d13:a.d≠a.x
 d14:a.d≠b.x
 d23:b.d≠a.x
 d24:b.d≠b.x
 d34:a.x≠b.x
end
end bt
end
section
namespace bt
open Go Go.RowKit
theorem K.wide{P:Program}{aq w:World}{S:Fr}{t:eD}{K:Fr→World→Prop}{qu}(h:∃C:World→Prop,C w∧cI P C t S w K):ft P aq (.wide t) S w K qu:=by
 unfold ft;exact h
section
variable{P:Program}{C:World→Prop}{S:Fr}{w:World}{K:Fr→World→Prop}
theorem cI.p{i:sW}{d:Option Nat}{r:eD}(h:lO P i S fun v=>cI P C r (put S d v) w K):cI P C (.take ⟨d,none,.p i⟩ r) S w K:=h
theorem cI.jK{k d x:Nat}{r:eD}{a:Addr}(av:S x = .pointer (some a))(h:cI P C r (cc S d (.pointer (some (a.add k)))) w K):cI P C (.take ⟨some d,none,.p (.jK k (.tmp x))⟩ r) S w K:=⟨a,av,h⟩
theorem cI.ld{d x:Nat}{r:eD}{a:Addr}{v:Value}(av:S x = .pointer (some a))(aO:∀w,C w→w.cell? a=some v)(h:cI P C r (cc S d v) w K):cI P C (.take ⟨some d,none,.r (.ld (.tmp x))⟩ r) S w K :=
 ⟨v,fun w hw=>⟨a,v,av,aO w hw,rfl⟩,h⟩
theorem cI.wQ{s:Step}{r:eD}(h:kh P C s S w fun S w=>cI P C r S w K):cI P C (.alt s r .nil) S w K:=⟨h,trivial⟩
theorem cI.r7{s:Step}{r:eD}(h:lC P s S w fun S w=>cI P C r S w K):cI P C (.bT s r .nil) S w K:=⟨h,trivial⟩
end
theorem kh.e{P:Program}{C:World→Prop}{i:qy}{d:Nat}{S:Fr}{w:World}{k:Fr→World→Prop}(h:mh P i S w fun v w'=>C w'∧k (put S (some d) v) w'):kh P C ⟨some d,none,.e i⟩ S w k:=h
theorem lC.e{P:Program}{i:qy}{d:Nat}{S:Fr}{w:World}{k:Fr→World→Prop}(h:mh P i S w fun v w'=>k (put S (some d) v) w'):lC P ⟨some d,none,.e i⟩ S w k:=h
theorem BD{P:Program}{ty e:TypeId}{sz b:Nat}{s x:Value}{w:World}{K:Value→World→Prop}(h:∀t,mg P ty e sz b s x w K t):wi P ty e sz b s x w K:=by
 have:=h ⟨⟩
 unfold mg at this;exact this
theorem No{x v:Value}{w:World}{K:World→Prop}(h:∀t,qF x v w K t):wL x v w K:=by
 have:=h ⟨⟩
 unfold qF at this;exact this
abbrev cg(s:Option Addr×Nat×Nat):Value:=.slice s.1 s.2.1 s.2.2
def dy{β:Type}(f:Nat→β)(i:Nat)(v:β):Nat→β:=fun j=>if j=i then v else f j
theorem AK{β:Type}(f:Nat→β)(i:Nat)(v:β):dy f i v i=v:=by simp[dy]
theorem vU{β:Type}(f:Nat→β){i j:Nat}(v:β)(h:j≠i):dy f i v j=f j:=by simp[dy,h]
structure hx{α:Type}(enc:α→List Value)(e:TypeId)(sz base:Nat)(w:World)(n:Nat)(vs:Nat→Option Addr×Nat×Nat)(xs:Nat→List α):Prop where
 own:∀i,i<n→bg enc e sz base w (cg (vs i)) (xs i)
 apart:∀i j k,i<n→j<n→i≠j→(cg (vs i)).ownBlock=some k→(cg (vs j)).ownBlock≠some k
section
variable{α:Type}{enc:α→List Value}{e:TypeId}{sz base n:Nat}{w w':World}{vs:Nat→Option Addr×Nat×Nat}{xs:Nat→List α}
theorem hx.mod{A:Nat→Prop}(h:hx enc e sz base w n vs xs)(m:Mod A w w')(ed:∀i k,i<n→(cg (vs i)).ownBlock=some k→¬A k):hx enc e sz base w' n vs xs :=
 ⟨fun i af=>(h.own i af).mod m (ed i · af),h.apart⟩
theorem hx.ext(h:hx enc e sz base w n vs xs)(m:Ext w w'):hx enc e sz base w' n vs xs:=h.mod (A:=fun _=>False) m.mod fun _ _ _ _ a=>a
theorem hx.not(h:hx enc e sz base w n vs xs){k:Nat}{c:Array Value}{t:TypeId}(hk:w.heap[k]? = some (.cells c t))(aL:t≠e):∀i,i<n→(cg (vs i)).ownBlock≠some k:=fun i af he=>by
 obtain⟨cur,U⟩:=(h.own i af).aQ k he;rw[hk] at U;injection U with U;injection U with _ U;exact aL U
theorem hx.lt(h:hx enc e sz base w n vs xs):∀i k,i<n→(cg (vs i)).ownBlock=some k→base≤k∧k<w.heap.size:=fun i k af he=>(h.own i af).lt k he
theorem hx.app{P:Program}{di:Value→World→Prop}{ty:TypeId}{b:Nat}{a:Addr}{c:Nat}{y:α}(i:Nat)(af:i<n)(h:hx enc e sz base w n vs xs)(dn:∀x,(enc x).length=sz)(aw:eB w a (enc y))(h1:∀y,∀u∈enc y,u.oneCell'=true)
  (aB:((xs i).length+1)*b≤140737488355328)(mA:(xs i).length+1≤maxLen)(lD:base≤w.heap.size)
  (hk:∀ck w',hx enc e sz base w' n (dy vs i ck) (dy xs i (xs i++[y]))→w.grownBy w' (cg (vs i)).ownBlock→ck.2.1=(xs i).length+1→di (cg ck) w'):wi P ty e sz b (cg (vs i)) (.slice (some a) 1 c) w di:=by
 refine BD fun t=>K.u0 (ys:=[y]) (h.own i af) dn (by simpa using aw) rfl h1 aB mA lD fun ck w' aZ aV je=>?_;obtain⟨bm,cap,rfl,_⟩:=aZ.form;refine hk (bm,(xs i++[y]).length,cap) w' ⟨fun j aI=>?_,fun j LZ k aI eQ cH he=>?_⟩ aV (by simp)
 ·by_cases gi:j=i
  ·subst gi;rw[AK,AK];exact aZ
  ·rw[vU _ _ gi,vU _ _ gi];exact(h.own j aI).mod (A:=fun k=>(cg (vs i)).ownBlock=some k) (Mod.grown aV fun k hk=>hk) fun k hk a=>h.apart j i k aI af gi hk a
 ·have key:∀q,q<n→q≠i→∀k,(cg (vs q)).ownBlock=some k→(Value.slice bm (xs i++[y]).length cap).ownBlock≠some k:=fun q aR Ln k hk he=>by
   rcases je with e | e
   ·rw[e] at he;exact h.apart q i k aR af Ln hk he
   ·rw[e] at he;injection he with he;have:=(h.lt q k aR hk).2;omega
  by_cases gi:j=i
  ·subst gi;rw[AK] at he;rw[vU _ _ (Ne.symm cH)];exact fun U=>key LZ eQ (Ne.symm cH) k U he
  ·rw[vU _ _ gi] at he;by_cases TM:LZ=i
   ·subst TM;rw[AK];exact key j aI gi k he
   ·rw[vU _ _ TM];exact h.apart j LZ k aI eQ cH he
end
end bt
end
section
namespace bt
open Go Go.RowKit
section
variable{P:Program}{aE:Value→Prop}{S:Fr}{w:World}
theorem K.afB{b i j:Nat}{c:List Value}{ty:TypeId}{f:Nat×Nat}{v:Value}{w0:World}{t}(aB:w0.heap[b]? = some (.cells c.toArray ty f))(he:Ext w0 w)(aI:c[i+j]? = some v)(hk:aE v):pM (.pointer (some ((Addr.add ⟨b,0,none⟩ i).add j))) w aE t:=by
 rw[add_add];exact K.sB aB he aI hk
end
theorem ad{A B:Prop}(k:B)(h:uU B→A:=by
 intro q
 (repeat' first
 | assumption
 | exact Ext.refl _
 | refine Ext.trans ?_ (by assumption)
 | simp -dsimp only[c6,cA,Nat.reduceAdd,Nat.reduceEqDiff,reduceIte,reduceCtorEq,de,uG,uF,ua,tZ,tx,tw,List.cons_append,List.nil_append]
 | refine K.wrap (by omega) ?_
 | refine K.sB (by assumption) ?_ rfl ?_
 | refine K.qd (by assumption) ?_ rfl ?_
 | refine K.tX (by omega) ?_
 | refine K.rZ (by first | assumption | omega) ?_
 | refine K.td (by first | assumption | omega) ?_
 | refine K.pX (by assumption) ?_
 | refine K.qR (by assumption) ?_
 | refine K.ud (by assumption) ?_ (by omega) rfl ?_
 | refine K.ue (by assumption) ?_ (by omega) rfl ?_
 | refine K.uc (by assumption) ?_ (by omega) rfl ?_
 | refine K.afB (by assumption) ?_ rfl ?_
 | refine K.Mb (by assumption) ?_ rfl ?_
 | refine K.Ma (by assumption) ?_ rfl ?_
 | refine K.gX (by assumption) ?_ rfl ?_
 | refine K.sF (fun _=>by (simp -dsimp only[c6,Nat.reduceAdd,Nat.reduceEqDiff,reduceIte,reduceCtorEq,de]);rfl) rfl rfl (by first | assumption | (simp[Value.oneCell',o.cU.enc,o.Ref.enc,o.Node.enc,o.Scalar.enc,o.Var.enc,o.dK.enc,o.Act.enc,o.dL.enc,o.dt.enc,o.kg.enc];done)) ?_
 | refine K.new ?_
 | refine K.hT (by assumption) rfl rfl (by first | assumption | (simp[Value.oneCell',o.cU.enc,o.Ref.enc,o.Node.enc,o.Scalar.enc,o.Var.enc,o.dK.enc,o.Act.enc,o.dL.enc,o.dt.enc,o.kg.enc];done)) ?_
 | refine K.st1 (by assumption) (Nat.le_of_ble_eq_true rfl) rfl ?_
 | refine K.sO (by assumption) (Nat.le_of_ble_eq_true rfl) rfl ?_
 | refine K.oy (by (simp only[e4,lay,oB,fD,b6,Value.cells,Nat.reduceAdd,Nat.reduceEqDiff,reduceIte,List.range,List.range.loop,List.map_cons,List.map_nil]);rfl) ?_
 | refine K.cP (by (simp only[e4,lay,oB,fD,b6,Value.cells,Nat.reduceAdd,Nat.reduceEqDiff,reduceIte]);rfl) ?_)
 exact q.out):A:=h ⟨k⟩
end bt
end
section
namespace o
open Go
structure Scope where
 scalars:List Scalar
 vars:List Var
 a7:List dK
 procs:List dt
 locals:List Var
 self:Int
structure Env where
 vars:List (List Int)
 lens:List Int
 locals:List Int
 at_:List (List Int)
 self:Int
def nth{α:Type}(l:List α)(n:Int):Option α:=if 0≤n then l[n.toNat]? else none
theorem lf{α:Type}{l:List α}{n:Int}(h:0≤n)(U:n<l.length):nth l n=some (l[n.toNat]'(by omega)):=by
 unfold nth;rw[if_pos h,List.getElem?_eq_getElem]
theorem kK{α:Type}{l:List α}{n:Int}(h:n<0∨(l.length:Int)≤n):nth l n=none:=by
 unfold nth;split
 ·rw[List.getElem?_eq_none (by omega)]
 ·rfl
def within(n:Int):Bool:=decide (-1048576≤n∧n≤1048576)
def tell(f:Int→Int→Int)(a b:Int):Int×Bool:=if within a&&within b&&within (f a b) then (f a b,true) else (0,false)
def bit(b:Bool):Int:=if b then 1 else 0
def fH(op:Int):Int:=if op=3 then 1 else if 1≤op∧op≤8 then 0 else if op=9∨op=10 then 1 else if 11≤op∧op≤19 then 2 else -1
def vJ(op:Int):Bool:=decide (9≤op∧op≤19)
structure o3 where
 parts:Int
 iV:Int
 makes:Int
 RH:Int→Int→Int×Bool
def yh(iV:Int)(p:Int→Int→Bool):o3:=⟨2,iV,1,fun a b=>(bit (p a b),true)⟩
def hP(x:Int):Option o3 :=
 if x=9 then some ⟨1,1,1,fun a _=>(bit (decide (a=0)),true)⟩
 else if x=10 then some ⟨1,0,0,fun a _=>tell (· - ·) 0 a⟩
 else if x=11 then some ⟨2,0,0,tell (· + ·)⟩
 else if x=12 then some ⟨2,0,0,tell (· - ·)⟩
 else if x=13 then some ⟨2,0,0,tell (· * ·)⟩
 else if x=14 then some (yh (-1) fun a b=>decide (a=b))
 else if x=15 then some (yh (-1) fun a b => !decide (a=b))
 else if x=16 then some (yh 0 fun a b=>decide (a<b))
 else if x=17 then some (yh 0 fun a b=>decide (a≤b))
 else if x=18 then some (yh 1 fun a b => !decide (a=0) && !decide (b=0))
 else if x=19 then some (yh 1 fun a b => !decide (a=0) || !decide (b=0))
 else none
theorem Mu{x:Int}(h:vJ x=false):hP x=none:=by
 have bK:¬(9≤x∧x≤19):=by simpa[vJ] using h
 unfold hP
 repeat rw[if_neg (by omega)]
theorem HJ{x:Int}{ak:o3}(h:hP x=some ak):ak.parts=fH x∧vJ x=true:=by
 unfold hP at h
 repeat' split at h
 all_goals first | (cases h;subst_vars;decide) | cases h
def stepG(f:Node→List Int→Int×Int)(x:Node)(st:List Int):Int×List Int :=
 if fH x.op<0 then (3,st) else if (st.length:Int)<fH x.op then (4,st)
 else if (f x st).2≠0 then ((f x st).2,st)
 else if (st.take (st.length - (fH x.op).toNat)++[(f x st).1]).length > 12 then (12,st) else (0,st.take (st.length - (fH x.op).toNat)++[(f x st).1])
def fP(f:Node→List Int→Int×Int):List Node→List Int→Int×List Int
 | [],st=>(0,st)
 | x :: r,st=>if (stepG f x st).1≠0 then stepG f x st else fP f r (stepG f x st).2
def nt(f:Node→List Int→Int×Int)(e:List Node):Int×Int :=
 if e.length > 24 then (0,5) else if e.length=0 then (0,4)
 else if (fP f e []).1≠0 then (0,(fP f e []).1) else if (fP f e []).2.length > 1 then (0,5) else ((fP f e []).2.headD 0,0)
theorem M7(f:Node→List Int→Int×Int):∀(a b:List Node) (st:List Int),fP f (a++b) st=if (fP f a st).1≠0 then fP f a st else fP f b (fP f a st).2
 | [],b,st=>by simp[fP]
 | x :: a,b,st=>by
  simp only[List.cons_append,fP];by_cases h:(stepG f x st).1=0
  ·simp only[h,ne_eq,not_true_eq_false,if_false];exact M7 f a b _
  ·simp[h]
theorem EC{f:Node→List Int→Int×Int}{e:List Node}{k:Nat}{st:List Int}(hk:k<e.length)(h:fP f (e.take k) []=(0,st)):fP f (e.take (k+1)) []=stepG f e[k] st:=by
 rw[List.take_succ_eq_append_getElem hk,M7,h];simp only[ne_eq,not_true_eq_false,if_false,fP];split
 ·rfl
 ·rename_i U;simp at U;exact Prod.ext U.symm rfl
theorem M8{f:Node→List Int→Int×Int}{e:List Node}{k:Nat}{q:Int×List Int}(h:fP f (e.take k) []=q)(ao:q.1≠0):fP f e []=q:=by
 have:=M7 f (e.take k) (e.drop k) []
 rw[List.take_append_drop,h,if_pos ao] at this;exact this
theorem Wy{f:Node→List Int→Int×Int}{e:List Node}(tv:e.length≤24){k:Nat}(hk:k<e.length){st:List Int}(h:fP f (e.take k) []=(0,st))(ao:(stepG f e[k] st).1≠0):nt f e=(0,(stepG f e[k] st).1):=by
 have U:=EC hk h;have ah:=M8 U ao;unfold nt;rw[if_neg (by omega),if_neg (by omega),ah,if_pos ao]
theorem ai6{f:Node→List Int→Int×Int}{x:Node}{st:List Int}(h:(stepG f x st).1=0):1≤(stepG f x st).2.length∧(stepG f x st).2.length≤12:=by
 unfold stepG at h ⊢
 repeat' split
 all_goals simp_all
def gE(n:Int)(s:Scope):Int×Bool:=if n=0 then (0,true) else if n<0∨(s.scalars.length:Int)<n then (0,false) else (1+n,true)
def fw(l:List Var)(n:Int)(s:Scope):Int×Int×Bool :=
 match nth l n with
 | some v=>((gE v.scalar s).1,(gE v.over s).1,(gE v.scalar s).2&&(gE v.over s).2)
 | none=>(0,0,false)
def ju(n:Int)(s:Scope):Int×Int:=match nth s.a7 n with | some c=>if (gE c.scalar s).2 then (0,0) else (0,8) | none=>(0,8)
def Ah(n:Int)(s:Scope):Int×Int:=if 0≤n then (match nth s.procs (n.tdiv 16) with | some p=>if n.tmod 16<p.cW then (0,0) else (0,8) | none=>(0,8)) else (0,8)
def la(x:Node)(s:Scope):Int×Int :=
 if x.op=5 then (if 1≤s.self∧s.self≤s.scalars.length then (1+s.self,0) else (0,8))
 else if x.op=6 then ju x.n s
 else if x.op=7 then Ah x.n s
 else if x.op=8 then (if 0≤x.n∧x.n<s.scalars.length then (2+x.n,0) else (0,8))
 else (0,8)
def ie(x:Node)(s:Scope)(top:Int):Int×Int :=
 if x.op=1 then (if within x.n then (0,0) else (0,10))
 else if x.op=2∨x.op=3∨x.op=4 then
  (let q:=fw (if x.op=4 then s.locals else s.vars) x.n s
   if q.2.2=false then (0,8) else if (x.op=3∧(q.2.1=0∨top≠q.2.1))∨(x.op≠3∧q.2.1≠0) then (0,9) else (q.1,0))
 else la x s
def mM(ak:o3)(l:List Int):Int×Int:=if l.all (fun k=>(decide (ak.iV = -1)||decide (k=ak.iV))&&decide (k=l.headD 0)) then (ak.makes,0) else (0,9)
def eY(s:Scope)(x:Node)(st:List Int):Int×Int :=
 match hP x.op with
 | some ak=>mM ak (st.drop (st.length - ak.parts.toNat))
 | none=>ie x s (st.getLastD 0)
def kind(e:List Node)(s:Scope):Int×Int:=nt (eY s) e
def Ij(l:List Int)(n:Int):Int×Int:=match nth l n with | some x=>(x,0) | none=>(0,8)
def ajO(x:Node)(v:Env)(top:Int):Int×Int :=
 if x.op=1 then (if within x.n then (x.n,0) else (0,10))
 else if x.op=2 then (match nth v.vars x.n with | some l=>Ij l 0 | none=>(0,8))
 else if x.op=3 then (match nth v.vars x.n with | some l=>(match nth l (top - 1) with | some y=>(y,0) | none=>(0,10)) | none=>(0,8))
 else if x.op=4 then Ij v.locals x.n
 else if x.op=6 then Ij v.lens x.n
 else if x.op=5 then (v.self,0)
 else if x.op=7 then (if 0≤x.n then (match nth v.at_ (x.n.tdiv 16) with | some l=>Ij l (x.n.tmod 16) | none=>(0,8)) else (0,8))
 else (0,0)
def ajR(ak:o3)(l:List Int):Int×Int:=let r:=ak.RH (l.headD 0) (l.getLastD 0);if r.2 then (r.1,0) else (0,10)
def abd(v:Env)(x:Node)(st:List Int):Int×Int :=
 match hP x.op with
 | some ak=>ajR ak (st.drop (st.length - ak.parts.toNat))
 | none=>ajO x v (st.getLastD 0)
def eval(e:List Node)(v:Env):Int×Int:=nt (abd v) e
def kx(scalar over:Int)(s:Scope):Int×Bool :=
 if scalar<0∨(s.scalars.length:Int)<scalar∨over<0∨(s.scalars.length:Int)<over then (0,false) else if scalar=0 then (0,true) else (1+scalar,true)
theorem ajh{a b:Int}{s:Scope}(h:(kx a b s).2=false):(kx a b s).1=0:=by
 unfold kx at h ⊢;by_cases q:a<0∨(s.scalars.length:Int)<a∨b<0∨(s.scalars.length:Int)<b
 ·rw[if_pos q]
 ·rw[if_neg q] at h;by_cases ef:a=0
  ·rw[if_pos ef] at h;cases h
  ·rw[if_neg ef] at h;cases h
def declared(l:List Var)(n:Int)(s:Scope):Option (Var×Int) :=
 match nth l n with
 | some v=>if (kx v.scalar v.over s).2 then some (v,(kx v.scalar v.over s).1) else none
 | none=>none
theorem aac{l:List Var}{n:Int}{s:Scope}{q:Var×Int}(h:declared l n s=some q):0≤q.1.over∧q.1.over≤s.scalars.length:=by
 unfold declared at h;cases aH:nth l n with
 | none=>rw[aH] at h;cases h
 | some v =>
  rw[aH] at h;simp only at h;by_cases aL:(kx v.scalar v.over s).2=true
  ·rw[if_pos aL] at h;unfold kx at aL;by_cases dQ:v.scalar<0∨(s.scalars.length:Int)<v.scalar∨v.over<0∨(s.scalars.length:Int)<v.over
   ·rw[if_pos dQ] at aL;cases aL
   ·injection h with h
    subst h;simp only;omega
  ·rw[if_neg aL] at h;cases h
def channel(n:Int)(s:Scope):Option Int :=
 match nth s.a7 n with
 | some c=>if (kx c.scalar 0 s).2 then some (kx c.scalar 0 s).1 else none
 | none=>none
def asked(e:List Node)(k:Int)(s:Scope):Int:=if (kind e s).2≠0 then (kind e s).2 else if (kind e s).1≠k then 9 else 0
def hs(a:Act):Bool:=decide (a.kind=4∨a.kind=5)
def Ez(a:Act)(k:Int)(s:Scope):Int:=match declared s.locals a.loc s with | some (v,k')=>if v.over≠0∨k'≠k then 9 else 0 | none=>8
def jF(a:Act)(s:Scope):Int :=
 if a.kind=1∨a.kind=2∨a.kind=3 then
  match declared (if a.kind=3 then s.locals else s.vars) a.to s with
  | none=>8
  | some (v,k) =>
   if (v.over≠0)≠(a.kind=2) then 9
   else if a.kind=2∧asked a.index (1+v.over) s≠0 then asked a.index (1+v.over) s
   else asked a.value k s
 else if a.kind=4∨a.kind=5 then
  match channel a.to s with
  | none=>8
  | some k=>if a.kind=5 then Ez a k s else asked a.value k s
 else 3
def head(c:dL)(cW:Int):Int :=
 if isName c.name=false then 6 else if c.from_<0∨cW≤c.from_∨c.to<0∨cW≤c.to then 10 else if c.cn.length > 6 then 11 else 0
def jZ(s:Scope):List Act→Nat→Bool→Int×Int
 | [],_,_=>(0,0)
 | a :: r,i,t=>if hs a&&t then (2+i,7) else if jF a s≠0 then (2+i,jF a s) else jZ s r (i+1) (t||hs a)
def iJ(c:dL)(cW:Int)(s:Scope):Int×Int :=
 if head c cW≠0 then (0,head c cW) else if c.guard.length > 0∧asked c.guard 1 s≠0 then (1,asked c.guard 1 s) else jZ s c.cn 0 false
def comm:List Act→Int×Int
 | []=>(0,0)
 | a :: r=>if hs a then (a.kind,a.to) else comm r
def ways(c:dL)(l:List dK):Int:=if (comm c.cn).1=4 then (match nth l (comm c.cn).2 with | some x=>if x.Vt then 2 else 1 | none=>1) else 1
def inner(p:dt)(s:Scope):Scope:={ s with locals:=p.vars,self:=p.over }
def whole(p:dt)(s:Scope):Int :=
 if isName p.name=false then 6 else if p.over<0∨(s.scalars.length:Int)<p.over then 8 else if p.cW<1∨12<p.cW then 10 else if p.cE.length > 12 then 11 else 0
def oQ(s:Scope):List Var→Nat→Int×Int
 | [],_=>(0,0)
 | v :: r,i=>if v.over≠0 then (i,9) else if s.vars.any (fun x=>decide (x.name=v.name)) then (i,7) else oQ s r (i+1)
def kt(p:dt)(s:Scope):Int×Int:=if (vars p.vars s.scalars 4).2≠0 then vars p.vars s.scalars 4 else oQ s p.vars 0
def kC(own:Scope)(cW:Int)(all:List dL):List dL→Nat→Int×Int×Int
 | [],_=>(0,0,0)
 | c :: r,i=>if (iJ c cW own).2≠0 then (2+(i:Int),(iJ c cW own).1,(iJ c cW own).2)
  else if (all.take i).any (fun x=>decide (x.name=c.name)) then (2+(i:Int),0,7) else kC own cW all r (i+1)
def gY(p:dt)(s:Scope):Int×Int×Int :=
 if whole p s≠0 then (0,0,whole p s) else if (kt p s).2≠0 then (1,(kt p s).1,(kt p s).2) else kC (inner p s) p.cW p.cE p.cE 0
def ez(m:Model):Scope:=⟨m.scalars,m.vars,m.a7,m.procs,[],0⟩
def gz(m:Model)(i:Int):Scope:=match nth m.procs i with | some p=>inner p (ez m) | none=>ez m
def elems(m:Model)(p:dt):Nat:=match nth m.scalars (p.over - 1) with | some s=>if s.size<1∨4<s.size then 0 else s.size.toNat | none=>0
theorem Cc(m:Model)(p:dt):elems m p≤4:=by
 unfold elems;split
 ·split
  ·omega
  ·omega
 ·omega
def iS(i:Nat)(n:Nat):List cU:=(List.range n).map fun(k:Nat)=>(⟨(i:Int),(k:Int)+1⟩:cU)
def ih(i:Nat)(p:dt):List cU:=if p.over=0 then [(⟨(i:Int),0⟩:cU)] else []
def iP(m:Model):List dt→Nat→List cU
 | [],_=>[]
 | p :: r,i=>ih i p++iS i (elems m p)++iP m r (i+1)
def insts(m:Model):List cU:=iP m m.procs 0
theorem VR(i n:Nat):iS i (n+1)=iS i n++[⟨(i:Int),(n:Int)+1⟩]:=by unfold iS;rw[List.range_succ,List.map_append];rfl
theorem UE{m:Model}{k:Nat}(h:k<m.procs.length):iP m (m.procs.drop k) k=ih k m.procs[k]++iS k (elems m m.procs[k])++iP m (m.procs.drop (k+1)) (k+1):=by
 rw[List.drop_eq_getElem_cons h];rfl
theorem agS(i:Nat)(p:dt):(ih i p).length≤1:=by unfold ih;split<;>simp
theorem UG(m:Model):∀(l:List dt) (i:Nat),(iP m l i).length≤5*l.length
 | [],_=>by simp[iP]
 | p :: r,i=>by
  have:=UG m r (i+1)
  have:=Cc m p
  have:=agS i p
  simp only[iP,List.length_append,List.length_cons,iS,List.length_map,List.length_range];omega
theorem xU(m:Model):(insts m).length≤5*m.procs.length:=UG m _ _
structure cU.of(m:Model)(x:cU):Prop where
 bA:0≤x.proc
 af:x.proc<m.procs.length
 elem:0≤x.elem∧x.elem≤4
theorem agR{m:Model}{i:Nat}(af:i<m.procs.length){n:Nat}(aH:n≤4):∀x∈iS i n,x.of m:=fun x av=>by
 unfold iS at av;obtain⟨k,hk,rfl⟩:=List.mem_map.1 av
 have:=List.mem_range.1 hk
 exact⟨by simp,by simpa using af,by constructor<;>simp<;>omega⟩
theorem agT{m:Model}{i:Nat}(af:i<m.procs.length){p:dt}:∀x∈ih i p,x.of m:=fun x av=>by
 unfold ih at av;split at av
 ·rw[List.mem_singleton] at av;subst av;exact⟨by simp,by simpa using af,by simp⟩
 ·cases av
theorem UI{m:Model}:∀(l:List dt) (i:Nat),i+l.length≤m.procs.length→∀x∈iP m l i,x.of m
 | [],_,_,x,av=>by simp[iP] at av
 | p :: r,i,h,x,av=>by
  simp only[iP,List.mem_append] at av;simp only[List.length_cons] at h;rcases av with (av | av) | av
  ·exact agT (by omega) x av
  ·exact agR (by omega) (Cc m p) x av
  ·exact UI r (i+1) (by omega) x av
theorem tY{m:Model}:∀x∈insts m,x.of m:=UI _ _ (by simp)
def qj(m:Model)(x:cU):Nat:=match nth m.procs x.proc with | some p=>p.cE.length | none=>0
def refsOf(i:Int)(n:Nat):List Ref:=(List.range n).map fun(k:Nat)=>(⟨i,(k:Int)⟩:Ref)
theorem Wo(i:Int)(n:Nat):refsOf i (n+1)=refsOf i n++[⟨i,(n:Int)⟩]:=by unfold refsOf;rw[List.range_succ,List.map_append];rfl
def ob(m:Model):List cU→Nat→List Ref
 | [],_=>[]
 | x :: r,i=>refsOf i (qj m x)++ob m r (i+1)
def refs(m:Model):List Ref:=ob m (insts m) 0
theorem ah0{m:Model}{l:List cU}{k:Nat}(h:k<l.length):ob m (l.drop k) k=refsOf k (qj m l[k])++ob m (l.drop (k+1)) (k+1):=by
 rw[List.drop_eq_getElem_cons h];rfl
def lh(m:Model)(s:Int×cU×List Ref)(x:cU):Int×cU×List Ref:=((if x≠s.2.1 then s.1+1 else s.1),x,s.2.2++refsOf (if x≠s.2.1 then s.1+1 else s.1) (qj m x))
structure qA where
 cM:Int
 part:Int
 item:Int
 sub:Int
deriving DecidableEq
def r6:qA:=⟨0,0,0,0⟩
abbrev Em(m:Model):List ByteArray:=m.scalars.map (·.name)
abbrev yb(m:Model)(i:Nat):List ByteArray:=(m.vars.take i).map (·.name)
abbrev ya(m:Model)(i:Nat):List ByteArray:=(m.a7.take i).map (·.name)
abbrev vQ(m:Model)(i:Nat):List ByteArray:=(m.procs.take i).map (·.name)
abbrev Mh(m:Model)(i:Nat):List ByteArray:=(m.props.take i).map (·.name)
abbrev qh(m:Model)(i:Nat):List ByteArray:=Em m++yb m i
abbrev l8(m:Model)(i:Nat):List ByteArray:=qh m m.vars.length++ya m i
abbrev ig(m:Model)(i:Nat):List ByteArray:=l8 m m.a7.length++vQ m i
abbrev qg(m:Model)(i:Nat):List ByteArray:=ig m m.procs.length++Mh m i
def mT(m:Model):Nat→Int:=err 12 (nameAt (·.name) m.vars) (oe m.vars m.scalars)
def mw(m:Model):Nat→Int:=err 4 (nameAt (·.name) m.a7) (nK m.a7 m.scalars)
def iK(m:Model)(i:Nat):Int:=if mT m i≠0 then mT m i else if nameAt (·.name) m.vars i∈qh m i then 7 else 0
def jJ(m:Model)(i:Nat):Int:=if mw m i≠0 then mw m i else if nameAt (·.name) m.a7 i∈l8 m i then 7 else 0
def pf(m:Model)(p:dt)(k:Nat):Int:=if nameAt (·.name) p.vars k∈ig m m.procs.length then 7 else 0
def hK(m:Model)(i:Nat):Int×Int :=
 match m.procs[i]? with
 | none=>(0,0)
 | some p=>if 6≤i then (11,0)
  else if (gY p (gz m i)).2.2≠0 then ((gY p (gz m i)).2.2,16*(gY p (gz m i)).1+(gY p (gz m i)).2.1)
  else if p.name∈ig m i then (7,0)
  else if (first p.vars.length (pf m p)).2≠0 then (7,16+(first p.vars.length (pf m p)).1)
  else (0,0)
def kb(m:Model)(p:dt):Int:=if p.over=0 then 1 else size p.over m.scalars
def hU(l:List Int):Int:=l.foldl (· + ·) 0
def pe(c:dK):Int:=1+min (max c.cap 0) 4
def pieces(m:Model):Int×Int×Int :=
 (hU (m.procs.map (kb m)),hU (m.procs.map fun p=>kb m p*p.cE.length),
  hU (m.vars.map (fun v=>cells v m.scalars))+hU (m.a7.map pe)+hU (m.procs.map fun p=>kb m p*(1+p.vars.length)))
def lT(m:Model)(i:Nat):Int :=
 match m.props[i]? with
 | none=>0
 | some p=>if 8≤i then 11 else if isName p.name=false then 6 else if p.name∈qg m i then 7
  else if (kind p.expr (ez m)).2≠0 then (kind p.expr (ez m)).2 else if (kind p.expr (ez m)).1≠1 then 9 else 0
def data(m:Model):qA :=
 if (scalars m.scalars).2≠0 then ⟨(scalars m.scalars).2,1,(scalars m.scalars).1,0⟩
 else if (first m.vars.length (iK m)).2≠0 then ⟨(first m.vars.length (iK m)).2,2,(first m.vars.length (iK m)).1,0⟩
 else if (first m.a7.length (jJ m)).2≠0 then ⟨(first m.a7.length (jJ m)).2,3,(first m.a7.length (jJ m)).1,0⟩
 else r6
def lg(m:Model):qA :=
 if (first m.procs.length fun i=>(hK m i).1).2≠0 then ⟨(first m.procs.length fun i=>(hK m i).1).2,4,(first m.procs.length fun i=>(hK m i).1).1,(hK m (first m.procs.length fun i=>(hK m i).1).1.toNat).2⟩
 else if 12<(pieces m).1∨64<(pieces m).2.2 then ⟨11,4,m.procs.length,0⟩ else r6
def n2(m:Model):qA:=if (first m.props.length (lT m)).2≠0 then ⟨(first m.props.length (lT m)).2,5,(first m.props.length (lT m)).1,0⟩ else r6
def check(m:Model):qA:=if (data m).cM≠0 then data m else if (lg m).cM≠0 then lg m else n2 m
theorem AE{α:Type}{f:α→ByteArray}{l:List α}{i:Nat}(h:i<l.length):nameAt f l i=f l[i]:=by
 unfold nameAt;rw[List.getElem?_eq_getElem h];rfl
theorem af1{p:Nat→Prop}(h:∃j,p j):∃i,p i∧∀k,p k→i≤k:=by
 obtain⟨j,aI⟩:=h
 induction j using Nat.strongRecOn with
 | _ j e6 =>
  by_cases av:∃k,k<j∧p k
  ·obtain⟨k,hk,aW⟩:=av;exact e6 k hk aW
  ·exact⟨j,aI,fun k aW=>Nat.le_of_not_lt fun cB=>av ⟨k,cB,aW⟩⟩
theorem tt{n:Nat}{e:Nat→Int}(h:(first n e).2=0):∀j,j<n→e j=0:=by
 intro j aI;apply Classical.byContradiction;intro aH;obtain⟨i,af,h1⟩:=af1 (p:=fun j=>j<n∧e j≠0) ⟨j,aI,aH⟩;rw[iu af.1 (fun k hk=>by
  apply Classical.byContradiction;intro cH;exact absurd (h1 k ⟨by omega,cH⟩) (by omega)) af.2] at h
 exact af.2 h
theorem Sn{n:Nat}{e:Nat→Int}(h:(first n e).2≠0):∃i,i<n∧(first n e).1=(i:Int)∧(first n e).2=e i:=by
 unfold first at h ⊢
 split at h
 ·rename_i i af;rw[List.find?_range_eq_some] at af;exact⟨i,by simpa using af.2.1,rfl,rfl⟩
 ·exact absurd rfl h
theorem R7{α:Type}{f:α→ByteArray}{l:List α}{fb:Int}{mo mo':Nat→Int}{k i:Nat}(af:i<k)(hm:mo i=mo' i):err fb (nameAt f (l.take k)) mo i=err fb (nameAt f l) mo' i:=by
 have aH:∀j,j<k→nameAt f (l.take k) j=nameAt f l j:=fun j aI=>by unfold nameAt;rw[List.getElem?_take_of_lt aI]
 unfold err;rw[aH i af,hm];have he:(∃j,j<i∧nameAt f (l.take k) j=nameAt f l i)↔(∃j,j<i∧nameAt f l j=nameAt f l i) :=
  ⟨fun⟨j,h1,U⟩=>⟨j,h1,by rw[←aH j (by omega)];exact U⟩,fun⟨j,h1,U⟩=>⟨j,h1,by rw[aH j (by omega)];exact U⟩⟩
 by_cases av:∃j,j<i∧nameAt f l j=nameAt f l i
 ·rw[if_pos (he.2 av),if_pos av]
 ·rw[if_neg (fun h=>av (he.1 h)),if_neg av]
theorem ajL{m:Model}{i:Nat}(af:i<m.vars.length)(bL:∀j,j<i→mT m j=0):(vars (m.vars.take (i+1)) m.scalars 12).2=mT m i:=by
 unfold vars;have a1:(m.vars.take (i+1)).length=i+1:=by simp;omega
 rw[a1,show(max 12 0:Int)=12 from rfl,Sm (e':=mT m) (fun j aI=>(R7 (mo':=oe m.vars m.scalars) aI (by unfold oe;rw[List.getElem?_take_of_lt aI]):_=mT m j))];by_cases ao:mT m i=0
 ·rw[nN fun j aI=>by
   by_cases gi:j=i
   ·subst gi;exact ao
   ·exact bL j (by omega),ao]
 ·rw[iu (by omega) bL ao]
theorem ZR{m:Model}{i:Nat}(af:i<m.a7.length)(bL:∀j,j<i→mw m j=0):(a7 (m.a7.take (i+1)) m.scalars).2=mw m i:=by
 unfold a7;have a1:(m.a7.take (i+1)).length=i+1:=by simp;omega
 rw[a1,Sm (e':=mw m) (fun j aI=>(R7 (mo':=nK m.a7 m.scalars) aI (by unfold nK;rw[List.getElem?_take_of_lt aI]):_=mw m j))];by_cases ao:mw m i=0
 ·rw[nN fun j aI=>by
   by_cases gi:j=i
   ·subst gi;exact ao
   ·exact bL j (by omega),ao]
 ·rw[iu (by omega) bL ao]
theorem ajK(m:Model):vars m.vars m.scalars 12=first m.vars.length (mT m):=rfl
theorem ZP(m:Model):a7 m.a7 m.scalars=first m.a7.length (mw m):=rfl
theorem Ik{m:Model}{i:Nat}(h:iK m i=0):mT m i=0:=by
 apply Classical.byContradiction;intro aH;unfold iK at h;rw[if_pos aH] at h;exact aH h
theorem FW{m:Model}{i:Nat}(h:jJ m i=0):mw m i=0:=by
 apply Classical.byContradiction;intro aH;unfold jJ at h;rw[if_pos aH] at h;exact aH h
theorem R8{m:Model}{i:Nat}(h:iK m i=0):i<12:=by
 have h:=Ik h;unfold mT err at h;split at h
 ·cases h
 ·omega
theorem aau{m:Model}{i:Nat}(h:jJ m i=0):i<4:=by
 have h:=FW h;unfold mw err at h;split at h
 ·cases h
 ·omega
theorem Gh{m:Model}{i:Nat}(af:i<m.procs.length)(h:(hK m i).1=0):i<6:=by
 unfold hK at h;rw[List.getElem?_eq_getElem af] at h;simp only at h;split at h
 ·cases h
 ·omega
theorem aaJ{m:Model}{i:Nat}(af:i<m.props.length)(h:lT m i=0):i<8:=by
 unfold lT at h;rw[List.getElem?_eq_getElem af] at h;simp only at h;split at h
 ·cases h
 ·omega
theorem WN{m:Model}(h:(scalars m.scalars).2=0):m.scalars.length≤2:=by
 unfold scalars at h
 have:=tt h
 apply Classical.byContradiction;intro aH;have U:=this 2 (by omega);unfold err at U;rw[if_pos (by omega)] at U;cases U
theorem size_le(k:Int)(s:List Scalar):0≤size k s∧size k s≤4:=by
 unfold size;split
 ·split<;>omega
 ·omega
theorem w1(v:Var)(s:List Scalar):0≤cells v s∧cells v s≤4:=by
 have:=size_le v.over s
 unfold cells;split<;>omega
theorem Er(m:Model)(p:dt):0≤kb m p∧kb m p≤4:=by
 have:=size_le p.over m.scalars
 unfold kb;split<;>omega
theorem Ji(c:dK):1≤pe c∧pe c≤5:=by unfold pe;omega
theorem aja(l:List Int)(x:Int):hU (l++[x])=hU l+x:=by unfold hU;simp
theorem ER{α:Type}(f:α→Int)(l:List α){k:Nat}(h:k<l.length):hU ((l.take (k+1)).map f)=hU ((l.take k).map f)+f l[k]:=by
 rw[List.take_succ_eq_append_getElem h,List.map_append,List.map_cons,List.map_nil,aja]
theorem EP{α:Type}(f:α→Int)(B:Int)(jN:0≤B):∀(l:List α),(∀x∈l,0≤f x∧f x≤B)→0≤hU (l.map f)∧hU (l.map f)≤B*l.length:=by
 have key:∀(l:List α) (a:Int),(∀x∈l,0≤f x∧f x≤B)→a≤(l.map f).foldl (· + ·) a∧(l.map f).foldl (· + ·) a≤a+B*l.length:=by
  intro l
  induction l with
  | nil=>intro a _;simp
  | cons x r e6 =>
   intro a h;have av:=h x (by simp);obtain⟨h1,U⟩:=e6 (a+f x) fun y bS=>h y (by simp[bS]);simp only[List.map_cons,List.foldl_cons,List.length_cons];rw[Int.natCast_succ,Int.mul_add];omega
 intro l h;obtain⟨h1,U⟩:=key l 0 h;unfold hU;omega
end o
namespace o
theorem Ry{m:Model}(h:(scalars m.scalars).2≠0):data m=⟨(scalars m.scalars).2,1,(scalars m.scalars).1,0⟩:=by unfold data;rw[if_pos h]
theorem F9{m:Model}(aG:(scalars m.scalars).2=0){i:Nat}(af:i<m.vars.length)(bL:∀j,j<i→iK m j=0)(h:iK m i≠0):data m=⟨iK m i,2,i,0⟩:=by
 unfold data;rw[if_neg (by simpa using aG),iu af bL h,if_pos h]
theorem F7{m:Model}(aG:(scalars m.scalars).2=0)(aO:∀j,j<m.vars.length→iK m j=0){i:Nat}(af:i<m.a7.length)(bL:∀j,j<i→jJ m j=0)(h:jJ m i≠0):data m=⟨jJ m i,3,i,0⟩:=by
 unfold data;rw[if_neg (by simpa using aG),nN aO,if_neg (by simp),iu af bL h,if_pos h]
theorem Rw{m:Model}(aG:(scalars m.scalars).2=0)(aO:∀j,j<m.vars.length→iK m j=0)(aw:∀j,j<m.a7.length→jJ m j=0):data m=r6:=by
 unfold data;rw[if_neg (by simpa using aG),nN aO,if_neg (by simp),nN aw,if_neg (by simp)]
theorem Rx{m:Model}(h:(data m).cM=0):(scalars m.scalars).2=0∧(∀j,j<m.vars.length→iK m j=0)∧(∀j,j<m.a7.length→jJ m j=0):=by
 unfold data at h;by_cases h1:(scalars m.scalars).2=0
 ·rw[if_neg (by simpa using h1)] at h;by_cases U:(first m.vars.length (iK m)).2=0
  ·rw[if_neg (by simpa using U)] at h;by_cases ah:(first m.a7.length (jJ m)).2=0
   ·exact⟨h1,tt U,tt ah⟩
   ·rw[if_pos ah] at h;exact absurd h ah
  ·rw[if_pos U] at h;exact absurd h U
 ·rw[if_pos h1] at h;exact absurd h h1
theorem F8{m:Model}(h:(data m).cM=0):m.scalars.length≤2∧m.vars.length≤12∧m.a7.length≤4:=by
 obtain⟨h1,U,ah⟩:=Rx h;refine⟨WN h1,?_,?_⟩
 ·apply Classical.byContradiction;intro aH
  have:=R8 (U 12 (by omega))
  omega
 ·apply Classical.byContradiction;intro aH
  have:=aau (ah 4 (by omega))
  omega
theorem Et{m:Model}{i:Nat}(af:i<m.procs.length)(bL:∀j,j<i→(hK m j).1=0)(h:(hK m i).1≠0):lg m=⟨(hK m i).1,4,i,(hK m i).2⟩:=by
 unfold lg;rw[iu (e:=fun i=>(hK m i).1) af bL h];simp only;rw[if_pos h];simp
theorem MC{m:Model}(bL:∀j,j<m.procs.length→(hK m j).1=0):lg m=if 12<(pieces m).1∨64<(pieces m).2.2 then ⟨11,4,m.procs.length,0⟩ else r6:=by
 unfold lg;rw[nN (e:=fun i=>(hK m i).1) bL,if_neg (by simp)]
theorem MD{m:Model}(h:(lg m).cM=0):(∀j,j<m.procs.length→(hK m j).1=0)∧(pieces m).1≤12∧(pieces m).2.2≤64:=by
 by_cases h1:(first m.procs.length fun i=>(hK m i).1).2=0
 ·have bL:=tt h1;rw[MC bL] at h;refine⟨bL,?_⟩;by_cases U:12<(pieces m).1∨64<(pieces m).2.2
  ·rw[if_pos U] at h;cases h
  ·omega
 ·unfold lg at h;rw[if_pos h1] at h;exact absurd h h1
theorem V2{m:Model}{i:Nat}(af:i<m.props.length)(bL:∀j,j<i→lT m j=0)(h:lT m i≠0):n2 m=⟨lT m i,5,i,0⟩:=by
 unfold n2;rw[iu af bL h,if_pos h]
theorem MF{m:Model}(bL:∀j,j<m.props.length→lT m j=0):n2 m=r6:=by
 unfold n2;rw[nN bL,if_neg (by simp)]
theorem HM{m:Model}(h:(n2 m).cM=0):∀j,j<m.props.length→lT m j=0:=by
 by_cases h1:(first m.props.length (lT m)).2=0
 ·exact tt h1
 ·unfold n2 at h;rw[if_pos h1] at h;exact absurd h h1
theorem AZ{α:Type}(f:α→ByteArray)(l:List α){k:Nat}(h:k<l.length):(l.take (k+1)).map f=(l.take k).map f++[f l[k]]:=by
 rw[List.take_succ_eq_append_getElem h,List.map_append];rfl
end o
namespace o
theorem JH{m:Model}{i:Nat}(af:i<m.procs.length):hK m i=if 6≤i then (11,0)
  else if (gY m.procs[i] (gz m i)).2.2≠0 then ((gY m.procs[i] (gz m i)).2.2,16*(gY m.procs[i] (gz m i)).1+(gY m.procs[i] (gz m i)).2.1)
  else if m.procs[i].name∈ig m i then (7,0)
  else if (first m.procs[i].vars.length (pf m m.procs[i])).2≠0 then (7,16+(first m.procs[i].vars.length (pf m m.procs[i])).1)
  else (0,0):=by
 unfold hK;rw[List.getElem?_eq_getElem af]
theorem Ck{m:Model}{i:Nat}(af:i<m.props.length):lT m i=if 8≤i then 11 else if isName m.props[i].name=false then 6 else if m.props[i].name∈qg m i then 7
  else if (kind m.props[i].expr (ez m)).2≠0 then (kind m.props[i].expr (ez m)).2 else if (kind m.props[i].expr (ez m)).1≠1 then 9 else 0:=by
 unfold lT;rw[List.getElem?_eq_getElem af]
theorem abk(n:Nat)(e:Nat→Int):0≤(first n e).1∧(first n e).1≤n:=by
 unfold first
 split
 ·rename_i i af;rw[List.find?_range_eq_some] at af
  have:=af.2.1
  simp at this;constructor<;>simp<;>omega
 ·simp
theorem Vs(s:Scope):∀(l:List Var) (i:Nat),0≤(oQ s l i).1∧(oQ s l i).1≤i+l.length
 | [],i=>by first | (simp[oQ];done) | (simp[oQ];omega)
 | v :: r,i=>by
  have:=Vs s r (i+1)
  unfold oQ;split
  ·simp;omega
  ·split
   ·simp;omega
   ·simp only[List.length_cons];omega
theorem ag8(p:dt)(s:Scope):0≤(kt p s).1∧(kt p s).1≤p.vars.length:=by
 unfold kt;split
 ·exact abk _ _
 ·have:=Vs s p.vars 0;omega
theorem QT(s:Scope):∀(l:List Act) (i:Nat) (t:Bool),0≤(jZ s l i t).1∧(jZ s l i t).1≤2+i+l.length
 | [],i,t=>by first | (simp[jZ];done) | (simp[jZ];omega)
 | a :: r,i,t=>by
  have:=QT s r (i+1) (t||hs a)
  unfold jZ;split
  ·simp;omega
  ·split
   ·simp;omega
   ·simp only[List.length_cons];omega
theorem Z0(c:dL)(cW:Int)(s:Scope):0≤(iJ c cW s).1∧(iJ c cW s).1≤2+c.cn.length:=by
 unfold iJ;split
 ·simp;omega
 ·split
  ·simp;omega
  ·have:=QT s c.cn 0 false;omega
theorem Rl(own:Scope)(cW:Int)(all:List dL)(B:Nat):∀(l:List dL) (i:Nat),(∀c∈l,c.cn.length≤B)→0≤(kC own cW all l i).1∧(kC own cW all l i).1≤2+i+l.length∧0≤(kC own cW all l i).2.1∧(kC own cW all l i).2.1≤2+B
 | [],i,_=>by first | (simp[kC];done) | (simp[kC];omega)
 | c :: r,i,h=>by
  have h1:=Rl own cW all B r (i+1) fun x av=>h x (by simp[av]);have U:=Z0 c cW own;have ah:=h c (by simp);unfold kC;split
  ·simp only[List.length_cons];omega
  ·split
   ·simp only[List.length_cons];omega
   ·simp only[List.length_cons];omega
theorem VY(p:dt)(s:Scope)(B:Nat)(h:∀c∈p.cE,c.cn.length≤B):0≤(gY p s).1∧(gY p s).1≤2+p.cE.length∧0≤(gY p s).2.1∧(gY p s).2.1≤2+B+p.vars.length:=by
 unfold gY;split
 ·simp;omega
 ·split
  ·have:=ag8 p s
   simp only;omega
  ·have:=Rl (inner p s) p.cW p.cE B p.cE 0 h
   omega
theorem MB{p:dt}{s:Scope}(h:(gY p s).2.2=0):p.vars.length≤4∧p.cE.length≤12∧whole p s=0∧(kt p s).2=0∧(kC (inner p s) p.cW p.cE p.cE 0).2.2=0:=by
 unfold gY at h;by_cases h1:whole p s=0
 ·rw[if_neg (by simpa using h1)] at h;by_cases U:(kt p s).2=0
  ·rw[if_neg (by simpa using U)] at h;refine⟨?_,?_,h1,U,h⟩
   ·have ah:(vars p.vars s.scalars 4).2=0:=by
     apply Classical.byContradiction;intro aH;unfold kt at U;rw[if_pos aH] at U;exact aH U
    apply Classical.byContradiction;intro aH;have aJ:=tt ah 4 (by omega);unfold err at aJ;rw[if_pos (by decide)] at aJ;cases aJ
   ·apply Classical.byContradiction;intro aH;unfold whole at h1;split at h1
    ·cases h1
    ·split at h1
     ·cases h1
     ·split at h1
      ·cases h1
      ·rw[if_pos (by omega)] at h1;cases h1
  ·rw[if_pos U] at h;exact absurd h U
 ·rw[if_pos h1] at h;exact absurd h h1
theorem Cj{m:Model}{i:Nat}(af:i<m.procs.length)(h:(hK m i).1=0):i<6∧(gY m.procs[i] (gz m i)).2.2=0∧¬m.procs[i].name∈ig m i∧(first m.procs[i].vars.length (pf m m.procs[i])).2=0:=by
 rw[JH af] at h;split at h
 ·cases h
 ·split at h
  ·rename_i h1 U;exact absurd h U
  ·split at h
   ·cases h
   ·split at h
    ·cases h
    ·rename_i h1 U ah aJ;exact⟨by omega,by simpa using U,ah,by simpa using aJ⟩
end o
end
section
namespace o
open Go
structure dJ where
 bA:Int
 af:Int
 kind:Int
structure Cell where
 sort:Int
 uL:Int
 place:Int
 bA:Int
 af:Int
 kind:Int
structure uV where
 vars:List Int
 a7:List Int
 insts:List Int
 cells:Int
 bA:List Int
 af:List Int
def kindOf(k:Int):Int:=if k=0 then 0 else k+1
def h2(v7 bA af:Int)(s:List Scalar):dJ:=if v7=0 then ⟨bA,af,0⟩ else ⟨0,size v7 s,v7+1⟩
theorem FR(v:Var)(s:List Scalar):h2 v.scalar v.bA v.af s=⟨(bounds v s).1,(bounds v s).2,kindOf v.scalar⟩:=by
 unfold h2 bounds kindOf;by_cases h:v.scalar=0
 ·rw[if_pos h,if_pos h,if_pos h]
 ·rw[if_neg h,if_neg h,if_neg h]
def yq(s:List Scalar)(v:Var):List dJ:=List.replicate (cells v s).toNat (h2 v.scalar v.bA v.af s)
def kB(s:List Scalar)(c:dK):dJ:=h2 c.scalar (min c.bA 0) (max c.af 0) s
def u6(s:List Scalar)(c:dK):List dJ:=⟨0,c.cap,0⟩ :: List.replicate c.cap.toNat (kB s c)
def ye(s:List Scalar)(p:dt):List dJ:=⟨0,p.cW - 1,0⟩ :: p.vars.map fun v=>h2 v.scalar v.bA v.af s
def nZ(m:Model)(x:cU):List dJ:=match nth m.procs x.proc with | some p=>ye m.scalars p | none=>[]
def fr(sort uL:Int):List dJ→Nat→List Cell
 | [],_=>[]
 | b :: r,k=>⟨sort,uL,k,b.bA,b.af,b.kind⟩ :: fr sort uL r (k+1)
def cellsOf(sort:Int):List (List dJ)→Nat→List Cell
 | [],_=>[]
 | l :: r,i=>fr sort i l 0++cellsOf sort r (i+1)
def total(ls:List (List dJ)):Nat:=(ls.map List.length).sum
def ha(n:Nat):List (List dJ)→List Int
 | []=>[]
 | l :: r=>(n:Int) :: ha (n+l.length) r
def dp(m:Model):List (List dJ):=m.vars.map (yq m.scalars)
def ej(m:Model):List (List dJ):=m.a7.map (u6 m.scalars)
def fG(m:Model):List (List dJ):=(insts m).map (nZ m)
def cZ(m:Model):List Cell:=cellsOf 1 (dp m) 0++cellsOf 2 (ej m) 0++cellsOf 3 (fG m) 0
def Ve(V C ep:List Int)(cs:List Cell):uV:=⟨V,C,ep,cs.length,cs.map (·.bA),cs.map (·.af)⟩
def layout(m:Model):uV:=Ve (ha 0 (dp m)) (ha (total (dp m)) (ej m)) (ha (total (dp m)+total (ej m)) (fG m)) (cZ m)
def Mo:uV:=⟨[],[],[],0,[],[]⟩
def lay(m:Model):uV:=if (check m).cM=0 then layout m else Mo
theorem xY(s w:Int):∀(l:List dJ) (k:Nat),(fr s w l k).length=l.length
 | [],_=>rfl
 | _ :: r,k=>by simp[fr,xY s w r]
theorem L6(s w:Int)(b:dJ):∀(l:List dJ) (k:Nat),fr s w (l++[b]) k=fr s w l k++[⟨s,w,(k+l.length:Nat),b.bA,b.af,b.kind⟩]
 | [],k=>by simp[fr]
 | x :: r,k=>by
  simp only[List.cons_append,fr,L6 s w b r,List.length_cons];rw[show k+1+r.length=k+(r.length+1) from by omega]
theorem aft{s w:Int}{l:List dJ}{k:Nat}(h:k<l.length):fr s w (l.take (k+1)) 0=fr s w (l.take k) 0++[⟨s,w,k,l[k].bA,l[k].af,l[k].kind⟩]:=by
 rw[List.take_succ_eq_append_getElem h,L6];simp[List.length_take,Nat.min_eq_left (Nat.le_of_lt h)]
theorem nJ(s:Int):∀(ls:List (List dJ)) (i:Nat),(cellsOf s ls i).length=total ls
 | [],_=>rfl
 | l :: r,i=>by simp[cellsOf,xY,nJ s r,total]
theorem wZ(s:Int)(x:List dJ):∀(ls:List (List dJ)) (i:Nat),cellsOf s (ls++[x]) i=cellsOf s ls i++fr s (i+ls.length:Nat) x 0
 | [],i=>by simp[cellsOf]
 | l :: r,i=>by
  simp only[List.cons_append,cellsOf,wZ s x r,List.length_cons,List.append_assoc];rw[show i+1+r.length=i+(r.length+1) from by omega]
theorem ajl(ls:List (List dJ))(x:List dJ):total (ls++[x])=total ls+x.length:=by simp[total]
theorem H7(x:List dJ):∀(ls:List (List dJ)) (n:Nat),ha n (ls++[x])=ha n ls++[((n+total ls:Nat):Int)]
 | [],n=>by simp[ha,total]
 | l :: r,n=>by
  simp only[List.cons_append,ha,H7 x r,total,List.map_cons,List.sum_cons];rw[show n+l.length+(r.map List.length).sum=n+(l.length+(r.map List.length).sum) from by omega]
theorem sP(n:Nat):∀(ls:List (List dJ)),(ha n ls).length=ls.length:=by
 intro ls
 induction ls generalizing n with
 | nil=>rfl
 | cons l r e6=>simp[ha,e6]
theorem DL(m:Model):(cZ m).length=total (dp m)+total (ej m)+total (fG m):=by simp[cZ,nJ,Nat.add_assoc]
def h5(s:Int):List Cell→Nat→List Int
 | [],_=>[]
 | x :: r,i=>(if x.place=0∧x.sort=s then [(i:Int)] else [])++h5 s r (i+1)
theorem Cq(s:Int):∀(a b:List Cell) (i:Nat),h5 s (a++b) i=h5 s a i++h5 s b (i+a.length)
 | [],b,i=>by simp[h5]
 | x :: r,b,i=>by
  simp only[List.cons_append,h5,Cq s r b,List.append_assoc,List.length_cons];rw[show i+1+r.length=i+(r.length+1) from by omega]
theorem Sq(s hD w:Int):∀(l:List dJ) (k i:Nat),0<k→h5 s (fr hD w l k) i=[]
 | [],_,_,_=>rfl
 | b :: r,k,i,h=>by
  simp only[fr,h5];rw[if_neg (by simp;omega),Sq s hD w r (k+1) (i+1) (by omega)];rfl
theorem Gk(s:Int):∀(ls:List (List dJ)) (i n:Nat),(∀l∈ls,l≠[])→h5 s (cellsOf s ls i) n=ha n ls
 | [],_,_,_=>rfl
 | [] :: r,i,n,h=>absurd rfl (h [] (by simp))
 | (b :: l) :: r,i,n,h=>by
  simp only[cellsOf,fr,List.cons_append,h5,Cq];rw[if_pos (by simp),Sq s s i l 1 (n+1) (by omega),Gk s r (i+1) _ (fun l a1=>h l (by simp[a1]))];simp only[List.nil_append,ha,xY,List.singleton_append,List.length_cons];rw[show n+1+l.length=n+(l.length+1) from by omega]
theorem xc(s hD:Int)(aG:s≠hD):∀(ls:List (List dJ)) (i n:Nat),h5 s (cellsOf hD ls i) n=[]
 | [],_,_=>rfl
 | l :: r,i,n=>by
  have key:∀(l:List dJ) (k n:Nat),h5 s (fr hD i l k) n=[]:=by
   intro l
   induction l with
   | nil=>intro k n;rfl
   | cons b r e6 =>
    intro k n;simp only[fr,h5];rw[if_neg (by simp;exact fun _=>Ne.symm aG),e6];rfl
  simp only[cellsOf,Cq,key,xc s hD aG r,List.append_nil]
end o
end