/- Texts joined: Lite12 LexP DeclP Rep Rep2 Lite13 Lite14 Lite15 Lite16 LiteS LiteN LiteO ExprP CmdP ProcP ModP LayP. -/
import Derived.Test.YtempnjgiohpopaaGreatDoorQrdc
import Derived.Lib.RuneCount
import Derived.Lib.TrimU
import Derived.Laws.StructEq
import Derived.Laws.Cover3
import Derived.Maps.AppendAt
import Derived.Laws.Pointers
set_option linter.all false
set_option maxRecDepth 4000
section
namespace bt
open Go Go.RowKit
structure tT(p:Prop):Prop where out:p
theorem aH{A B:Prop}(k:B)(h:tT B→A:=by
 intro q
 (repeat' first
 | assumption
 | exact Ext.refl _
 | refine Ext.trans ?_ (by assumption)
 | refine K.wrap (by omega) ?_
 | refine K.rO (by assumption) ?_ rfl ?_
 | refine K.pQ (by assumption) ?_ rfl ?_
 | refine K.tg (by assumption) ?_ (by omega) rfl ?_
 | refine K.th (by assumption) ?_ (by omega) rfl ?_
 | refine K.tf (by assumption) ?_ (by omega) rfl ?_
 | refine K.s9 (by omega) ?_
 | refine K.su (by first | assumption | omega) ?_
 | refine K.ss (by first | assumption | omega) ?_
 | refine K.qs (by assumption) ?_
 | refine K.qq (by assumption) ?_
 | simp -dsimp only[cJ,cw,Nat.reduceAdd,Nat.reduceEqDiff,reduceIte,reduceCtorEq,cU])
 exact q.out):A:=h ⟨k⟩
theorem cY{F A B:Prop}(f:F)(k:B)(h:F→tT B→A:=by
 intro f q
 (repeat' first
 | assumption
 | exact Ext.refl _
 | refine Ext.trans ?_ (by assumption)
 | refine K.wrap (by omega) ?_
 | refine K.rO (by assumption) ?_ rfl ?_
 | refine K.pQ (by assumption) ?_ rfl ?_
 | refine K.tg (by assumption) ?_ (by omega) rfl ?_
 | refine K.th (by assumption) ?_ (by omega) rfl ?_
 | refine K.tf (by assumption) ?_ (by omega) rfl ?_
 | refine K.s9 (by omega) ?_
 | refine K.su (by first | assumption | omega) ?_
 | refine K.ss (by first | assumption | omega) ?_
 | refine K.qs (by assumption) ?_
 | refine K.qq (by assumption) ?_
 | simp -dsimp only[cJ,cw,Nat.reduceAdd,Nat.reduceEqDiff,reduceIte,reduceCtorEq,cU,f])
 exact q.out):A:=h f ⟨k⟩
theorem oM{A B:Prop}(k:B)(h:tT B→A:=by
 intro q
 (repeat' first
 | assumption
 | exact Ext.refl _
 | refine Ext.trans ?_ (by assumption)
 | refine K.wrap (by omega) ?_
 | refine K.rO (by assumption) ?_ rfl ?_
 | refine K.pQ (by assumption) ?_ rfl ?_
 | refine K.tg (by assumption) ?_ (by omega) rfl ?_
 | refine K.th (by assumption) ?_ (by omega) rfl ?_
 | refine K.tf (by assumption) ?_ (by omega) rfl ?_
 | refine K.s9 (by omega) ?_
 | refine K.su (by first | assumption | omega) ?_
 | refine K.ss (by first | assumption | omega) ?_
 | refine K.qs (by assumption) ?_
 | refine K.qq (by assumption) ?_
 | simp -dsimp only[cJ,Nat.reduceAdd,Nat.reduceEqDiff,reduceIte,reduceCtorEq,cU])
 exact q.out):A:=h ⟨k⟩
theorem b2{F A B:Prop}(f:F)(k:B)(h:F→tT B→A:=by
 intro f q;simp -dsimp only[cJ,cw,Nat.reduceAdd,Nat.reduceEqDiff,reduceIte,reduceCtorEq,cU,f];exact q.out):A:=h f ⟨k⟩
def tC:List (Nat×Value)→Fr→Fr
 | [],S=>S
 | p :: r,S=>b7 (tC r S) p.1 p.2
theorem tE(S:Fr):tC [] S=S:=eq_of_heq (HEq.refl _)
theorem tD(t:Nat)(v:Value)(r:List (Nat×Value))(S:Fr):tC ((t,v) :: r) S=b7 (tC r S) t v:=eq_of_heq (HEq.refl _)
def Has(S:Fr):List (Nat×Value)→Prop
 | []=>True
 | p :: r=>S p.1=p.2∧Has S r
theorem sK(S:Fr):Has S []=True:=propext Iff.rfl
theorem sJ(S:Fr)(t:Nat)(v:Value)(r:List (Nat×Value)):Has S ((t,v) :: r)=(S t=v∧Has S r):=propext Iff.rfl
theorem Gk{S:Fr}:∀L,Has S L→tC L S=S
 | [],_=>rfl
 | p :: r,h=>by
  show b7 (tC r S) p.1 p.2=S;rw[Gk r h.2];exact im S _ _ h.1
def tb(S:Fr):List Nat→Fr→Fr
 | [],a6=>a6
 | t :: r,a6=>b7 (tb S r a6) t (S t)
theorem td(S a6:Fr):tb S [] a6=a6:=eq_of_heq (HEq.refl _)
theorem tc(S a6:Fr)(t:Nat)(r:List Nat):tb S (t :: r) a6=b7 (tb S r a6) t (S t):=eq_of_heq (HEq.refl _)
theorem FO{S a6:Fr}:∀cQ:List Nat,(∀t∈cQ,a6 t=S t)→tb S cQ a6=a6
 | [],_=>rfl
 | t :: r,h=>by
  show b7 (tb S r a6) t (S t)=a6;rw[FO r fun u hu=>h u (by simp[hu])];exact im a6 _ _ (h t (by simp))
theorem bB{p:Prop}(h:p:=by first | trivial | rfl | exact⟨rfl,trivial⟩ | (simp -dsimp only[cJ,tE,tD,td,tc,sK,sJ,Nat.reduceAdd,Nat.reduceEqDiff,reduceIte,and_self];done) | (simp -dsimp only[cJ,tE,tD,td,tc,sK,sJ,Nat.reduceAdd,Nat.reduceEqDiff,reduceIte,and_self];exact⟨rfl,trivial⟩)):p:=h
theorem Kk{ds cQ:List Nat}(h:(cQ.all fun t => !ds.contains t)=true):∀t∈cQ,ds.contains t=false:=fun t aL=>by
 have:=List.all_eq_true.1 h t aL
 simpa using this
theorem acX{p:Nat→Prop}:∀n,p n→∃m,p m∧∀k,p k→m≤k:=fun n=>by
 induction n using Nat.strongRecOn with
 | _ n fB =>
  intro h;by_cases hm:∃k,k<n∧p k
  ·obtain⟨k,hk,aO⟩:=hm;exact fB k hk aO
  ·exact⟨n,h,fun k hk=>Nat.le_of_not_lt fun cq=>hm ⟨k,cq,hk⟩⟩
noncomputable def least(p:Nat→Prop):Nat:=open Classical in if h:∃m,p m∧∀k,p k→m≤k then h.choose else 0
theorem SK{p:Nat→Prop}(h:∃n,p n):p (least p)∧∀k,p k→least p≤k:=by
 obtain⟨n,aI⟩:=h;have hm:=acX n aI;unfold least;rw[dif_pos hm];exact hm.choose_spec
section
variable{P:Program}{Q:dN→Fr→World→Prop}{S:Fr}{w:World}
theorem K.df{β:Type}{b:eV}{t}(i N:Nat)(cQ:List Nat)(M:β→List (Nat×Value))(jW:β)(ja:Nat→β→World→Prop)(I6:S i = .int .i64 0)(bg:Has S (M jW))(aj:ja 0 jW w)
  (bd:∀(k:Nat) x a6 w',k≤N→ja k x w' →
   dT P b (h0 (fun fk bZ=>k<N∧fk i = .int .i64 ((k:Int)+1)∧∃xE,Has fk (M xE)∧ja (k+1) xE bZ) Q ⟨⟩) (tC (M x) (b7 (tb S cQ a6) i (.int .i64 k))) w' ⟨⟩)
  (br:(cQ.all fun t => !b.e8.contains t)=true:=by rfl):vy P b Q S w t:=by
 refine K.yz i N (fun k S w => ∃x,Has S (M x)∧ja k x w) I6 ⟨jW,bg,aj⟩ ?_;rintro k a6 w' ck hk ad ⟨x,Bc,qw⟩;have h:=bd k x a6 w' hk qw;rw[FO cQ fun t aL=>ck t (Kk br t aL),im a6 i _ ad,Gk _ Bc] at h;exact h
theorem K.hQ{β:Type}{a b:eV}{t}(cQ:List Nat)(M:β→List (Nat×Value))(N:β→World→Prop)(h1:dT P a (h0 (fun fk bZ => ∃x,Has fk (M x)∧N x bZ) Q ⟨⟩) S w ⟨⟩)
  (U:∀x a6 w',N x w'→dT P b Q (tC (M x) (tb S cQ a6)) w' ⟨⟩)(br:(cQ.all fun t => !a.e8.contains t)=true:=by rfl):dT P (.seq a b) Q S w t:=by
 refine K.cut _ h1 ?_;rintro a6 w' ck ⟨x,bg,fT⟩;have h:=U x a6 w' fT;rw[FO cQ fun t aL=>ck t (Kk br t aL),Gk _ bg] at h;exact h
theorem K.DA{β:Type}{b:eV}{t}(cQ:List Nat)(M:β→List (Nat×Value))(jW:β)(ja:β→World→Prop)(iZ:β→Nat)(bg:Has S (M jW))(aj:ja jW w)
  (bd:∀x a6 w',ja x w' →
   dT P b (h0 (fun fk bZ => ∃xE,Has fk (M xE)∧ja xE bZ∧iZ xE<iZ x) Q ⟨⟩) (tC (M x) (tb S cQ a6)) w' ⟨⟩)
  (br:(cQ.all fun t => !b.e8.contains t)=true:=by rfl):vy P b Q S w t:=by
 refine K.loop (fun S w => ∃x,Has S (M x)∧ja x w) (fun S w=>least fun n => ∃x,Has S (M x)∧ja x w∧iZ x=n) ⟨jW,bg,aj⟩ ?_;rintro a6 w' ck ⟨x,Bc,qw⟩;obtain⟨⟨y,h1,U,ag⟩,aK⟩:=SK (p:=fun n => ∃x,Has a6 (M x)∧ja x w'∧iZ x=n) ⟨iZ x,x,Bc,qw,rfl⟩;have h:=bd y a6 w' U;rw[FO cQ fun t aL=>ck t (Kk br t aL),Gk _ h1] at h;unfold dT h0 at *;refine p4 b _ _ a6 w' (fun e fk bZ _ h=>?_) h
 match e,h with
 | .normal,⟨z,ez,gd,iS⟩ =>
  refine⟨⟨z,ez,gd⟩,?_⟩;have bc:=(SK (p:=fun n => ∃x,Has fk (M x)∧ja x bZ∧iZ x=n) ⟨iZ z,z,ez,gd,rfl⟩).2 (iZ z) ⟨z,ez,gd,rfl⟩;show least _<least _;rw[←ag];omega
 | .exit _,h=>exact h
 | .ret,h=>exact h
 | .fK _,h=>exact h
end
end bt
end
section
namespace o
open Go
def letter(n:Int):Bool:=decide (97≤n∧n≤122∨65≤n∧n≤90)
def digit(n:Int):Bool:=decide (48≤n∧n≤57)
def part(n:Int):Bool:=letter n||digit n||decide (n=95)
def qn(s:ByteArray)(i:Nat):Nat:=(s.get! i).toNat
def run(p:Int→Bool)(s:ByteArray):Nat:=(s.data.toList.takeWhile fun b=>p b.toNat).length
theorem UK{α:Type}(p:α→Bool):∀(l:List α) (n:Nat) (h:n<l.length),(∀j (aU:j<n),p (l[j]'(by omega))=true)→p l[n]=false→(l.takeWhile p).length=n
 | [],n,h,_,_=>by simp at h
 | x :: l,0,h,_,U=>by simp at U;simp[U]
 | x :: l,n+1,h,h1,U=>by
  have ar:p x=true:=h1 0 (by omega);rw[List.takeWhile_cons,if_pos ar,List.length_cons,UK p l n (by simpa using h) (fun j aU=>h1 (j+1) (by omega)) (by simpa using U)]
theorem UJ{α:Type}(p:α→Bool):∀(l:List α) (_:∀j (aU:j<l.length),p l[j]=true),(l.takeWhile p).length=l.length
 | [],_=>rfl
 | x :: l,h=>by
  have ar:p x=true:=h 0 (by simp);rw[List.takeWhile_cons,if_pos ar,List.length_cons,UJ p l (fun j aU=>h (j+1) (by simpa using aU)),List.length_cons]
theorem Ug(p:Int→Bool)(s:ByteArray)(n:Nat)(h:n<s.size)(h1:∀j (aU:j<n),p (s[j]'(by omega)).toNat=true)(U:p s[n].toNat=false):run p s=n :=
 UK (fun b:UInt8=>p b.toNat) s.data.toList n (by simpa using h) (fun j aU=>h1 j aU) U
theorem Ua(p:Int→Bool)(s:ByteArray)(h:∀j (aU:j<s.size),p s[j].toNat=true):run p s=s.size:=by
 have:=UJ (fun b:UInt8=>p b.toNat) s.data.toList (fun j aU=>h j (by simpa using aU))
 rw[run,this];simp
theorem XN{p:Int→Bool}(aO:∀r:Int,128≤r→p r=false)(s:ByteArray)(pos:Nat)(h:pos<s.size) :
  p (Utf8.decode s pos).1=p s[pos].toNat∧(p s[pos].toNat=true→(Utf8.decode s pos).2=1):=by
 by_cases bp:s[pos].toNat<128
 ·rw[decode_ascii s pos h bp];exact⟨rfl,fun _=>rfl⟩
 ·have h1:=decode_high s pos h (by omega);rw[aO _ (by omega),aO _ (by omega)];exact⟨rfl,fun h=>by simp at h⟩
theorem acJ(r:Int)(h:128≤r):letter r=false:=by simp[letter];omega
theorem XP(r:Int)(h:128≤r):digit r=false:=by simp[digit];omega
theorem adV(r:Int)(h:128≤r):part r=false:=by simp[part,acJ r h,XP r h];omega
instance aiI:LawfulBEq ByteArray where
 eq_of_beq {a b} h:=by rw[bt.Ay] at h;exact of_decide_eq_true h
 rfl {a}:=by rw[bt.Ay];exact decide_eq_true rfl
def pc:List ByteArray:=[⟨#[115,101,108,102]⟩,⟨#[110,111,110,101]⟩,⟨#[108,101,110]⟩,⟨#[97,116]⟩]
def isName(s:ByteArray):Bool:=decide (s.size≠0)&&decide (s.size≤16)&&letter (qn s 0)&&decide (run part s=s.size) && !decide (s∈pc)
theorem afg(p:Int→Bool)(s:ByteArray):run p s≤s.size:=by
 have:=(List.takeWhile_sublist (fun b:UInt8=>p b.toNat) (l:=s.data.toList)).length_le
 simpa[run] using this
theorem get_eq(s:ByteArray)(i:Nat)(h:i<s.size):s.get! i=s[i]:=by
 obtain⟨d⟩:=s;show d[i]! = d[i];exact getElem!_pos d i h
theorem get?_eq(s:ByteArray)(i:Nat)(h:i<s.size):s[i]? = some (s.get! i):=by rw[get_eq s i h];exact getElem?_pos s i h
structure Scalar where
 name:ByteArray
 size:Int
structure Var where
 name:ByteArray
 scalar:Int
 over:Int
 aZ:Int
 ad:Int
 init:Int
structure c5 where
 name:ByteArray
 scalar:Int
 cap:Int
 aZ:Int
 ad:Int
 SX:Bool
def size(k:Int)(s:List Scalar):Int :=
 match s[(k - 1).toNat]? with
 | some x=>if 1≤k∧1≤x.size∧x.size≤4 then x.size else 0
 | none=>0
def narrow(aZ ad:Int):Bool:=decide (-1048576≤aZ∧aZ≤ad∧ad≤1048576∧ad - aZ<256)
def there(k:Int)(s:List Scalar):Bool:=decide (k=0∨size k s≠0)
def err(e0:Int)(fe:Nat→ByteArray)(mo:Nat→Int)(i:Nat):Int :=
 if e0≤i then 11 else if isName (fe i)=false then 6 else if ∃j,j<i∧fe j=fe i then 7 else mo i
def first(n:Nat)(e:Nat→Int):Int×Int:=match (List.range n).find? (fun i=>decide (e i≠0)) with | some i=>((i:Int),e i) | none=>(0,0)
theorem hR{n:Nat}{e:Nat→Int}{i:Nat}(ad:i<n)(h1:∀j,j<i→e j=0)(U:e i≠0):first n e=((i:Int),e i):=by
 have:(List.range n).find? (fun i=>decide (e i≠0))=some i:=by
  rw[List.find?_range_eq_some];simp only[decide_eq_true_eq];exact⟨U,by simpa using ad,fun j aU=>by simp[h1 j aU]⟩
 rw[first,this]
theorem ng{n:Nat}{e:Nat→Int}(h:∀j,j<n→e j=0):first n e=(0,0):=by
 have:(List.range n).find? (fun i=>decide (e i≠0))=none:=by
  rw[List.find?_range_eq_none];intro j aU;simp[h j aU]
 rw[first,this]
theorem P4{n:Nat}{e e':Nat→Int}(h:∀j,j<n→e j=e' j):first n e=first n e':=by
 by_cases ar:∃i,i<n∧e i≠0∧∀j,j<i→e j=0
 ·obtain⟨i,ad,h1,U⟩:=ar;rw[hR ad U h1,hR ad (fun j aU=>by rw[←h j (by omega)];exact U j aU) (by rw[←h i ad];exact h1),h i ad]
 ·have bU:∀j,j<n→e j=0:=by
   intro j
   induction j using Nat.strongRecOn with
   | _ j fB =>
    intro aU;by_cases aj:e j=0
    ·exact aj
    ·exact absurd ⟨j,aU,aj,fun k hk=>fB k hk (by omega)⟩ ar
  rw[ng bU,ng fun j aU=>by rw[←h j aU];exact bU j aU]
def nameAt{α:Type}(f:α→ByteArray)(l:List α)(i:Nat):ByteArray:=(l[i]?.map f).getD ⟨#[]⟩
def rW(l:List Scalar)(i:Nat):Int:=match l[i]? with | some x=>if 1≤x.size∧x.size≤4 then 0 else 10 | none=>0
def scalars(l:List Scalar):Int×Int:=first l.length (err 2 (nameAt (·.name) l) (rW l))
def bounds(v:Var)(s:List Scalar):Int×Int:=if v.scalar=0 then (v.aZ,v.ad) else (0,size v.scalar s)
def cells(v:Var)(s:List Scalar):Int:=if v.over=0 then 1 else size v.over s
def nA(l:List Var)(s:List Scalar)(i:Nat):Int :=
 match l[i]? with
 | some v=>if there v.scalar s=false∨there v.over s=false then 8
  else if (v.scalar=0∧narrow v.aZ v.ad=false)∨v.init<(bounds v s).1∨v.init > (bounds v s).2 then 10 else 0
 | none=>0
def vars(l:List Var)(s:List Scalar)(e0:Int):Int×Int:=first l.length (err (max e0 0) (nameAt (·.name) l) (nA l s))
def nc(l:List c5)(s:List Scalar)(i:Nat):Int :=
 match l[i]? with
 | some c=>if there c.scalar s=false then 8
  else if c.cap<1∨c.cap > 4∨(c.scalar=0∧narrow c.aZ c.ad=false) then 10 else 0
 | none=>0
def aJ(l:List c5)(s:List Scalar):Int×Int:=first l.length (err 4 (nameAt (·.name) l) (nc l s))
end o
end
section
namespace o
open Go Go.RowKit bt
def Scalar.enc(x:Scalar):List Value:=[.string x.name,.int .i64 x.size]
def Var.enc(x:Var):List Value:=[.string x.name,.int .i64 x.scalar,.int .i64 x.over,.int .i64 x.aZ,.int .i64 x.ad,.int .i64 x.init]
def c5.enc(x:c5):List Value:=[.string x.name,.int .i64 x.scalar,.int .i64 x.cap,.int .i64 x.aZ,.int .i64 x.ad,.bool x.SX]
def hZ(s:ByteArray):Prop:=s.size≤9223372036854775807
instance aiW(s:ByteArray):Decidable (hZ s):=Nat.decLe _ _
structure iv(w:World)(a:Addr)(x:Scalar):Prop where
 cells:fi w a x.enc
 ok:hZ x.name
structure oK(w:World)(a:Addr)(x:Var):Prop where
 cells:fi w a x.enc
 ok:hZ x.name
structure oJ(w:World)(a:Addr)(x:c5):Prop where
 cells:fi w a x.enc
 ok:hZ x.name
theorem iv.ext(w w':World)(a:Addr)(x:Scalar)(he:Ext w w')(h:iv w a x):iv w' a x:=⟨h.cells.ext he,h.ok⟩
theorem oK.ext(w w':World)(a:Addr)(x:Var)(he:Ext w w')(h:oK w a x):oK w' a x:=⟨h.cells.ext he,h.ok⟩
theorem oJ.ext(w w':World)(a:Addr)(x:c5)(he:Ext w w')(h:oJ w a x):oJ w' a x:=⟨h.cells.ext he,h.ok⟩
abbrev gi(w:World)(v:Value)(l:List Scalar):Prop:=bz 2 iv w v l
abbrev gJ(w:World)(v:Value)(l:List Var):Prop:=bz 6 oK w v l
abbrev lN(w:World)(v:Value)(l:List c5):Prop:=bz 6 oJ w v l
theorem gi.aW{w:World}{b n:Nat}{e:TypeId}{f:Nat×Nat}{xs:List Scalar}(aD:w.heap[b]? = some (.cells (xs.flatMap Scalar.enc).toArray e f))(aI:n=xs.length)(hm:xs.length≤maxLen)(dh:∀x∈xs,hZ x.name) :
  gi w (.slice (some ⟨b,0,none⟩) n n) xs:=bz.aW (enc:=Scalar.enc) (fun _=>rfl) aD aI hm fun _ x ar ax=>⟨ax,dh x ar⟩
theorem gJ.aW{w:World}{b n:Nat}{e:TypeId}{f:Nat×Nat}{xs:List Var}(aD:w.heap[b]? = some (.cells (xs.flatMap Var.enc).toArray e f))(aI:n=xs.length)(hm:xs.length≤maxLen)(dh:∀x∈xs,hZ x.name) :
  gJ w (.slice (some ⟨b,0,none⟩) n n) xs:=bz.aW (enc:=Var.enc) (fun _=>rfl) aD aI hm fun _ x ar ax=>⟨ax,dh x ar⟩
structure Node where
 op:Int
 n:Int
structure Act where
 kind:Int
 to:Int
 loc:Int
 index:List Node
 value:List Node
structure dG where
 name:ByteArray
 from_:Int
 to:Int
 guard:List Node
 b4:List Act
 fair:Bool
structure dj where
 name:ByteArray
 over:Int
 cz:Int
 vars:List Var
 cB:List dG
structure kn where
 name:ByteArray
 expr:List Node
structure Model where
 scalars:List Scalar
 vars:List Var
 aJ:List c5
 procs:List dj
 props:List kn
structure c3 where
 proc:Int
 elem:Int
deriving DecidableEq
structure Ref where
 inst:Int
 cmd:Int
deriving DecidableEq
def c3.enc(x:c3):List Value:=[.int .i64 x.proc,.int .i64 x.elem]
def Ref.enc(x:Ref):List Value:=[.int .i64 x.inst,.int .i64 x.cmd]
def Node.enc(x:Node):List Value:=[.int .i64 x.op,.int .i64 x.n]
def en(n:Int):Prop := -9223372036854775808≤n∧n≤9223372036854775807
structure Node.ok(x:Node):Prop where
 op:en x.op
 n:en x.n
structure vI(w:World)(a:Addr)(x:Node):Prop where
 cells:fi w a x.enc
 ok:x.ok
theorem vI.ext(w w':World)(a:Addr)(x:Node)(he:Ext w w')(h:vI w a x):vI w' a x:=⟨h.cells.ext he,h.ok⟩
abbrev fG(w:World)(v:Value)(l:List Node):Prop:=bz 2 vI w v l
theorem fG.ext{w w':World}{v:Value}{l:List Node}(he:Ext w w')(h:fG w v l):fG w' v l:=bz.ext vI.ext he h
def Act.enc(x:Act)(cr ct:Value):List Value:=[.int .i64 x.kind,.int .i64 x.to,.int .i64 x.loc,cr,ct]
def vF(w:World)(a:Addr)(x:Act):Prop := ∃cr ct,fi w a (x.enc cr ct)∧fG w cr x.index∧fG w ct x.value
theorem vF.ext(w w':World)(a:Addr)(x:Act)(he:Ext w w')(h:vF w a x):vF w' a x:=let ⟨cr,ct,h1,U,ag⟩:=h; ⟨cr,ct,h1.ext he,U.ext he,ag.ext he⟩
abbrev mR(w:World)(v:Value)(l:List Act):Prop:=bz 5 vF w v l
theorem mR.ext{w w':World}{v:Value}{l:List Act}(he:Ext w w')(h:mR w v l):mR w' v l:=bz.ext vF.ext he h
def dG.enc(x:dG)(fD eD:Value):List Value:=[.string x.name,.int .i64 x.from_,.int .i64 x.to,fD,eD,.bool x.fair]
def vG(w:World)(a:Addr)(x:dG):Prop:=hZ x.name∧∃fD eD,fi w a (x.enc fD eD)∧fG w fD x.guard∧mR w eD x.b4
theorem vG.ext(w w':World)(a:Addr)(x:dG)(he:Ext w w')(h:vG w a x):vG w' a x:=let ⟨aj,cr,ct,h1,U,ag⟩:=h; ⟨aj,cr,ct,h1.ext he,U.ext he,ag.ext he⟩
abbrev pq(w:World)(v:Value)(l:List dG):Prop:=bz 6 vG w v l
theorem pq.ext{w w':World}{v:Value}{l:List dG}(he:Ext w w')(h:pq w v l):pq w' v l:=bz.ext vG.ext he h
theorem gi.ext{w w':World}{v:Value}{l:List Scalar}(he:Ext w w')(h:gi w v l):gi w' v l:=bz.ext iv.ext he h
theorem gJ.ext{w w':World}{v:Value}{l:List Var}(he:Ext w w')(h:gJ w v l):gJ w' v l:=bz.ext oK.ext he h
theorem lN.ext{w w':World}{v:Value}{l:List c5}(he:Ext w w')(h:lN w v l):lN w' v l:=bz.ext oJ.ext he h
def dj.enc(x:dj)(ct dM:Value):List Value:=[.string x.name,.int .i64 x.over,.int .i64 x.cz,ct,dM]
def xU(w:World)(a:Addr)(x:dj):Prop:=hZ x.name∧∃ct dM,fi w a (x.enc ct dM)∧gJ w ct x.vars∧pq w dM x.cB
theorem xU.ext(w w':World)(a:Addr)(x:dj)(he:Ext w w')(h:xU w a x):xU w' a x:=let ⟨aj,cr,ct,h1,U,ag⟩:=h; ⟨aj,cr,ct,h1.ext he,U.ext he,ag.ext he⟩
abbrev pt(w:World)(v:Value)(l:List dj):Prop:=bz 5 xU w v l
theorem pt.ext{w w':World}{v:Value}{l:List dj}(he:Ext w w')(h:pt w v l):pt w' v l:=bz.ext xU.ext he h
def xL(w:World)(cs:List Value)(c:dG):Prop:=hZ c.name∧∃fD eD,cs=c.enc fD eD∧fG w fD c.guard∧mR w eD c.b4
theorem xL.ext{w w':World}{cs:List Value}{c:dG}(he:Ext w w')(h:xL w cs c):xL w' cs c:=let ⟨aj,cr,ct,h1,U,ag⟩:=h; ⟨aj,cr,ct,h1,U.ext he,ag.ext he⟩
def tX(w:World)(cs:List Value)(p:dj):Prop:=hZ p.name∧∃ct dM,cs=p.enc ct dM∧gJ w ct p.vars∧pq w dM p.cB
theorem tX.ext{w w':World}{cs:List Value}{p:dj}(he:Ext w w')(h:tX w cs p):tX w' cs p:=let ⟨aj,cr,ct,h1,U,ag⟩:=h; ⟨aj,cr,ct,h1,U.ext he,ag.ext he⟩
def kn.enc(x:kn)(hs:Value):List Value:=[.string x.name,hs]
def xV(w:World)(a:Addr)(x:kn):Prop:=hZ x.name∧∃hs,fi w a (x.enc hs)∧fG w hs x.expr
theorem xV.ext(w w':World)(a:Addr)(x:kn)(he:Ext w w')(h:xV w a x):xV w' a x:=let ⟨aj,cr,h1,U⟩:=h; ⟨aj,cr,h1.ext he,U.ext he⟩
abbrev xS(w:World)(v:Value)(l:List kn):Prop:=bz 2 xV w v l
theorem xS.ext{w w':World}{v:Value}{l:List kn}(he:Ext w w')(h:xS w v l):xS w' v l:=bz.ext xV.ext he h
structure er(w:World)(cs:List Value)(m:Model):Prop where
 ex:∃v0 v1 v2 v3 v4,cs=[v0,v1,v2,v3,v4]∧gi w v0 m.scalars∧gJ w v1 m.vars∧lN w v2 m.aJ∧pt w v3 m.procs∧xS w v4 m.props
theorem er.ext{w w':World}{cs:List Value}{m:Model}(he:Ext w w')(h:er w cs m):er w' cs m :=
 let ⟨v0,v1,v2,v3,v4,e,aj,h1,U,ag,aK⟩:=h.ex
 ⟨v0,v1,v2,v3,v4,e,aj.ext he,h1.ext he,U.ext he,ag.ext he,aK.ext he⟩
instance aiF:k8 vI Node.enc:=⟨fun _ _ _ h=>h.cells⟩
instance aiG:k8 iv Scalar.enc:=⟨fun _ _ _ h=>h.cells⟩
instance aiH:k8 oK Var.enc:=⟨fun _ _ _ h=>h.cells⟩
instance aiB:k8 oJ c5.enc:=⟨fun _ _ _ h=>h.cells⟩
end o
end
section
namespace bt
open Go Go.RowKit
section
variable{P:Program}{aF:Value→Prop}{w w0:World}
theorem K.J4{a:Addr}{cs:List Value}{j:Nat}{v:Value}{t}(h:fi w0 a cs)(he:Ext w0 w)(aU:cs[j]? = some v)(hk:aF v):pr (.pointer (some (a.add j))) w aF t:=K.ld (he.cell (h j v aU)) hk
theorem K.J3{a:Addr}{cs:List Value}{n:Nat}{t}(h:fi w0 a cs)(he:Ext w0 w)(aI:cs.length=n)(hk:aF (.agg cs.toArray)):q4 n (.pointer (some a)) w aF t:=K.jk (h.ext he) aI hk
end
theorem aa{A B:Prop}(k:B)(h:tT B→A:=by
 intro q
 (repeat' first
 | assumption
 | exact Ext.refl _
 | refine Ext.trans ?_ (by assumption)
 | simp -dsimp only[cJ,cw,Nat.reduceAdd,Nat.reduceEqDiff,reduceIte,reduceCtorEq,cU,tE,tD,td,tc,sK,sJ,List.cons_append,List.nil_append]
 | refine K.wrap (by omega) ?_
 | refine K.rO (by assumption) ?_ rfl ?_
 | refine K.pQ (by assumption) ?_ rfl ?_
 | refine K.s9 (by omega) ?_
 | refine K.su (by first | assumption | omega) ?_
 | refine K.ss (by first | assumption | omega) ?_
 | refine K.qs (by assumption) ?_
 | refine K.qq (by assumption) ?_
 | refine K.tg (by assumption) ?_ (by omega) rfl ?_
 | refine K.th (by assumption) ?_ (by omega) rfl ?_
 | refine K.tf (by assumption) ?_ (by omega) rfl ?_
 | refine K.J4 (by assumption) ?_ rfl ?_
 | refine K.J3 (by assumption) ?_ rfl ?_
 | refine K.gm (by assumption) ?_ rfl ?_
 | refine K.rS (fun _=>by (simp -dsimp only[cJ,Nat.reduceAdd,Nat.reduceEqDiff,reduceIte,reduceCtorEq,cU]);rfl) rfl rfl (by first | assumption | (simp[Value.oneCell',o.c3.enc,o.Ref.enc,o.Node.enc,o.Scalar.enc,o.Var.enc,o.c5.enc,o.Act.enc,o.dG.enc,o.dj.enc,o.kn.enc];done)) ?_
 | refine K.new ?_
 | refine K.k6 (by assumption) rfl rfl (by first | assumption | (simp[Value.oneCell',o.c3.enc,o.Ref.enc,o.Node.enc,o.Scalar.enc,o.Var.enc,o.c5.enc,o.Act.enc,o.dG.enc,o.dj.enc,o.kn.enc];done)) ?_
 | refine K.st1 (by assumption) (Nat.le_of_ble_eq_true rfl) rfl ?_
 | refine K.r0 (by assumption) (Nat.le_of_ble_eq_true rfl) rfl ?_
 | refine K.kt (by (simp only[ew,lay,nO,fv,cd,Value.cells,Nat.reduceAdd,Nat.reduceEqDiff,reduceIte,List.range,List.range.loop,List.map_cons,List.map_nil]);rfl) ?_
 | refine K.cF (by (simp only[ew,lay,nO,fv,cd,Value.cells,Nat.reduceAdd,Nat.reduceEqDiff,reduceIte]);rfl) ?_)
 exact q.out):A:=h ⟨k⟩
theorem ei{A B:Prop}(k:B)(h:tT B→A:=by
 intro q
 (repeat' first
 | assumption
 | exact Ext.refl _
 | refine Ext.trans ?_ (by assumption)
 | simp -dsimp only[cJ,Nat.reduceAdd,Nat.reduceEqDiff,reduceIte,reduceCtorEq,cU,tE,tD,td,tc,sK,sJ,List.cons_append,List.nil_append]
 | refine K.wrap (by omega) ?_
 | refine K.rO (by assumption) ?_ rfl ?_
 | refine K.pQ (by assumption) ?_ rfl ?_
 | refine K.s9 (by omega) ?_
 | refine K.su (by first | assumption | omega) ?_
 | refine K.ss (by first | assumption | omega) ?_
 | refine K.qs (by assumption) ?_
 | refine K.qq (by assumption) ?_
 | refine K.tg (by assumption) ?_ (by omega) rfl ?_
 | refine K.th (by assumption) ?_ (by omega) rfl ?_
 | refine K.tf (by assumption) ?_ (by omega) rfl ?_
 | refine K.J4 (by assumption) ?_ rfl ?_
 | refine K.J3 (by assumption) ?_ rfl ?_
 | refine K.gm (by assumption) ?_ rfl ?_
 | refine K.rS (fun _=>by (simp -dsimp only[cJ,Nat.reduceAdd,Nat.reduceEqDiff,reduceIte,reduceCtorEq,cU]);rfl) rfl rfl (by first | assumption | (simp[Value.oneCell',o.c3.enc,o.Ref.enc,o.Node.enc,o.Scalar.enc,o.Var.enc,o.c5.enc,o.Act.enc,o.dG.enc,o.dj.enc,o.kn.enc];done)) ?_
 | refine K.new ?_
 | refine K.k6 (by assumption) rfl rfl (by first | assumption | (simp[Value.oneCell',o.c3.enc,o.Ref.enc,o.Node.enc,o.Scalar.enc,o.Var.enc,o.c5.enc,o.Act.enc,o.dG.enc,o.dj.enc,o.kn.enc];done)) ?_
 | refine K.st1 (by assumption) (Nat.le_of_ble_eq_true rfl) rfl ?_
 | refine K.r0 (by assumption) (Nat.le_of_ble_eq_true rfl) rfl ?_
 | refine K.kt (by (simp only[ew,lay,nO,fv,cd,Value.cells,Nat.reduceAdd,Nat.reduceEqDiff,reduceIte,List.range,List.range.loop,List.map_cons,List.map_nil]);rfl) ?_
 | refine K.cF (by (simp only[ew,lay,nO,fv,cd,Value.cells,Nat.reduceAdd,Nat.reduceEqDiff,reduceIte]);rfl) ?_)
 exact q.out):A:=h ⟨k⟩
end bt
end
section
namespace bt
open Go Go.RowKit
def ga(A:Nat→Prop)(p:World→Prop)(w:World):Prop := ∀w',Mod A w w'→p w'
theorem ga.here{A:Nat→Prop}{p:World→Prop}{w:World}(h:ga A p w):p w:=h w (Mod.refl A w)
theorem Mod.comp{A A' B:Nat→Prop}{a b c:World}(h:Mod A a b)(k:Mod A' b c)(h1:∀i,i<a.heap.size→A i→B i)(U:∀i,i<a.heap.size→A' i→B i):Mod B a c :=
 ⟨k.os.trans h.os,k.tape.trans h.tape,k.output.trans h.output,Nat.le_trans h.size k.size,fun i ad aI=>(k.block i (Nat.lt_of_lt_of_le ad h.size) fun e=>aI (U i ad e)).trans (h.block i ad fun e=>aI (h1 i ad e))⟩
theorem ga.move{A A' B:Nat→Prop}{p:World→Prop}{w w':World}(h:ga B p w)(m:Mod A w w')(h1:∀i,i<w.heap.size→A i→B i)(U:∀i,i<w.heap.size→A' i→B i):ga A' p w' :=
 fun bZ k=>h bZ (m.comp k h1 U)
theorem ga.mono{A B:Nat→Prop}{p:World→Prop}{w:World}(h:ga B p w)(U:∀i,i<w.heap.size→A i→B i):ga A p w:=h.move (Mod.refl A w) U U
theorem ga.ext{B:Nat→Prop}{p:World→Prop}{w w':World}(h:ga B p w)(e:Ext w w')(hT:∀i,w.heap.size≤i→¬B i):ga B p w' :=
 h.move (A:=fun _=>False) e.mod (fun _ _ h=>h.elim) (fun _ _ h=>h)
theorem ga.imp{A:Nat→Prop}{p q:World→Prop}{w:World}(h:ga A p w)(Jp:∀w,p w→q w):ga A q w:=fun w' m=>Jp w' (h w' m)
theorem ga.and{A:Nat→Prop}{p q:World→Prop}{w:World}(h:ga A p w)(k:ga A q w):ga A (fun w=>p w∧q w) w:=fun w' m=>⟨h w' m,k w' m⟩
theorem ga.of{A:Nat→Prop}{p:World→Prop}{w:World}(h:∀w',p w'):ga A p w:=fun w' _=>h w'
abbrev ev(w:World)(p:World→Prop)(w':World):Prop:=ga (fun k=>k<w.heap.size) p w'
theorem ev.ext{w av aT:World}{p:World→Prop}(h:ev w p av)(he:Ext av aT)(aj:w.heap.size≤av.heap.size):ev w p aT :=
 ga.ext h he fun i ad hk=>by omega
theorem ev.low{w w0 av:World}{p:World→Prop}(h:ev w p av)(aj:w0.heap.size≤w.heap.size):ev w0 p av:=h.mono fun i _ ad=>by omega
theorem ev.wr{w av aT:World}{p:World→Prop}{b:Nat}(h:ev w p av)(hw:dK b av aT)(aD:b<w.heap.size):ev w p aT :=
 ga.move h (A:=fun k=>k=b) (hw.mod rfl) (fun i _ e=>by omega) (fun i _ e=>e)
theorem ev.and{w av:World}{p q:World→Prop}(h:ev w p av)(k:ev w q av):ev w (fun w=>p w∧q w) av:=ga.and h k
theorem ev.imp{w av:World}{p q:World→Prop}(h:ev w p av)(Jp:∀w,p w→q w):ev w q av:=ga.imp h Jp
class Rel{α:Type}(R:World→Addr→α→Prop)(C:outParam (World→List Value→α→Prop))(sz:outParam Nat):Prop where
 out:∀{w a x},R w a x→∃cs,fi w a cs∧C w cs x
 og:∀{w a cs x},fi w a cs→C w cs x→R w a x
 len:∀{w cs x},C w cs x→cs.length=sz
 one:∀{w cs x},C w cs x→∀u∈cs,u.oneCell'=true
 ext:∀{w w' cs x},Ext w w'→C w cs x→C w' cs x
abbrev nD(sz:Nat):={cs:List Value // cs.length=sz∧∀u∈cs,u.oneCell'=true}
def rj{sz:Nat}(c:nD sz):List Value:=c.1
theorem ur{sz:Nat}(c:nD sz):(rj c).length=sz:=c.2.1
theorem HZ{sz:Nat}(c:nD sz):∀u∈rj c,u.oneCell'=true:=c.2.2
abbrev tV(e:TypeId)(sz base:Nat)(w:World)(v:Value)(eF:List (nD sz)):Prop:=bs rj e sz base w v eF
theorem bz.cells{α:Type}{R:World→Addr→α→Prop}{C:World→List Value→α→Prop}{sz:Nat}[Rel R C sz]{w:World}{v:Value}{xs:List α}(h:bz sz R w v xs) :
  ∃eF:List (nD sz),eF.length=xs.length∧bz sz (Flat rj) w v eF∧∀i (h1:i<eF.length) (U:i<xs.length),C w eF[i].1 xs[i]:=by
 obtain⟨bl,cap,rfl,h1,U,ag,aK⟩:=h.ex;obtain⟨eF,aP,ax⟩:=J6 xs.length (fun i (c:nD sz)=>(∀a,bl=some a→fi w (a.add (i*sz)) c.1)∧∀(h:i<xs.length),C w c.1 xs[i]) fun i ad=>by
  obtain⟨a,rfl⟩:=Option.isSome_iff_exists.1 (ag (by intro e;subst e;simp at ad));obtain⟨cs,c1,c2⟩:=Rel.out (aK a rfl i ad);exact⟨⟨cs,Rel.len (R:=R) c2,Rel.one (R:=R) c2⟩,fun dt e=>by injection e with e;subst e;exact c1,fun _=>c2⟩
 refine⟨eF,aP,⟨bl,cap,by rw[aP],by omega,U,fun aI=>ag (by intro e;subst e;simp at aP;exact aI aP),fun a bp i ad=>(ax i ad).1 a bp⟩,fun i h1 U=>(ax i h1).2 U⟩
theorem bz.Kl{α:Type}{R:World→Addr→α→Prop}{C:World→List Value→α→Prop}{sz:Nat}[Rel R C sz]{w:World}{v:Value}{xs:List α}{eF:List (nD sz)}(aP:eF.length=xs.length)(h:bz sz (Flat rj) w v eF)
  (ax:∀i (h1:i<eF.length) (U:i<xs.length),C w eF[i].1 xs[i]):bz sz R w v xs:=by
 obtain⟨bl,cap,rfl,h1,U,ag,aK⟩:=h.ex;refine⟨bl,cap,by rw[aP],by omega,U,fun aI=>ag (by intro e;subst e;simp at aP;exact aI (List.eq_nil_of_length_eq_zero aP.symm)),fun a bp i ad=>Rel.og (aK a bp i (by omega)) (ax i (by omega) ad)⟩
theorem K.ud{P:Program}{c6:Value→World→Prop}{α:Type}{enc:α→List Value}{e:TypeId}{sz base:Nat}{w:World}{xs:List α}{ty:TypeId}{b:Nat}{s:Value}{a:Addr}{m c:Nat}{ys:List α}{t}(ay:bs enc e sz base w s xs)(c8:∀x,(enc x).length=sz)(ax:fi w a (ys.flatMap enc))(hm:m=ys.length)
  (h1:∀y,∀u∈enc y,u.oneCell'=true)(aD:(xs.length+ys.length)*b≤140737488355328)(jA:xs.length+ys.length≤maxLen)(iP:base≤w.heap.size)
  (hk:∀b8 w',bs enc e sz base w' b8 (xs++ys)→w.grownBy w' s.ownBlock→(b8.ownBlock=s.ownBlock∨b8.ownBlock=some w.heap.size)→c6 b8 w'):ki P ty e sz b s (.slice (some a) m c) w c6 t:=by
 subst hm;refine K.app fun⟨aL,i,z,ad,bU,yY,yE,wT,FF⟩=>?_;obtain⟨b8,w',bd,U,ag,_,bc⟩:=run_append_own_at (P:=P) w base ty ty e i z sz b aL ad bU yY yE wT FF s _ _ ay a _ c _ (wi c8 ys) ax (fun u hu=>by obtain⟨y,_,cx⟩:=List.mem_flatMap.1 hu;exact h1 y u cx) jA aD iP;refine⟨ty,b8,w',bd,hk b8 w' ?_ ag bc⟩;unfold bs;rw[List.length_append,List.flatMap_append];exact U
def vD(v:Value)(base k:Nat):Prop:=v.ownBlock=some k∨k<base
structure fs{α:Type}(C:World→List Value→α→Prop)(e:TypeId)(sz base:Nat)(w:World)(v:Value)(xs:List α):Prop where
 ex:∃eF:List (nD sz),eF.length=xs.length∧tV e sz base w v eF∧∀i (h1:i<eF.length) (U:i<xs.length),ga (vD v base) (fun w=>C w eF[i].1 xs[i]) w
section
variable{α:Type}{C:World→List Value→α→Prop}{e:TypeId}{sz base:Nat}{w w':World}{v:Value}{xs:List α}
theorem fs.nil(C:World→List Value→α→Prop)(e:TypeId)(sz base:Nat)(w:World):fs C e sz base w (.slice none 0 0) []:=⟨[],rfl,bs.nil _ _ _ _ _,fun i h=>by cases h⟩
theorem fs.form(h:fs C e sz base w v xs):∃bl cap,v = .slice bl xs.length cap∧xs.length≤cap∧cap≤maxLen:=by
 obtain⟨eF,aP,a1,_⟩:=h.ex;obtain⟨bl,cap,h1,U,ag⟩:=a1.form;exact⟨bl,cap,by rw[h1,aP],by omega,ag⟩
theorem fs.lt(h:fs C e sz base w v xs):∀k,v.ownBlock=some k→base≤k∧k<w.heap.size:=by
 obtain⟨eF,aP,a1,_⟩:=h.ex;exact a1.lt
theorem bs.mod{enc:α→List Value}{A:Nat→Prop}(h:bs enc e sz base w v xs)(m:Mod A w w')(e2:∀k,v.ownBlock=some k→¬A k):bs enc e sz base w' v xs:=by
 refine⟨h.1,?_⟩;rcases h.2 with aI | ⟨g,cap,cur,rfl,aD,a8,rest⟩
 ·exact .inl aI
 ·exact .inr ⟨g,cap,cur,rfl,aD,m.obj (e2 g rfl) a8,rest⟩
theorem bs.aW{enc:α→List Value}(h:bs enc e sz base w v xs):∀k,v.ownBlock=some k→∃cur,w.heap[k]? = some (.cells cur e):=fun k hk=>by
 rcases h.2 with ⟨rfl,_⟩ | ⟨g,cap,cur,rfl,aD,a8,rest⟩
 ·cases hk
 ·simp only[Value.ownBlock,Option.some.injEq] at hk;subst hk;exact⟨cur,a8⟩
theorem fs.mod{A:Nat→Prop}(h:fs C e sz base w v xs)(m:Mod A w w')(e2:∀k,k<w.heap.size→A k→k<base):fs C e sz base w' v xs:=by
 obtain⟨eF,aP,a1,ax⟩:=h.ex;refine⟨eF,aP,a1.mod m fun k hk a=>?_,fun i h1 U=>(ax i h1 U).move m (fun i ad a=>.inr (e2 i ad a)) fun _ _ a=>a⟩
 have:=a1.lt k hk
 have:=e2 k this.2 a
 omega
theorem fs.ext(h:fs C e sz base w v xs)(m:Ext w w'):fs C e sz base w' v xs:=h.mod (A:=fun _=>False) m.mod fun _ _ h=>h.elim
theorem fs.wr{b:Nat}(h:fs C e sz base w v xs)(m:dK b w w')(aD:b<base):fs C e sz base w' v xs:=h.mod (A:=fun k=>k=b) (m.mod rfl) fun k _ e=>by omega
theorem fs.new{R:World→Addr→α→Prop}[Rel R C sz](h:fs C e sz base w v xs):ga (fun k=>k<base) (fun w=>bz sz R w v xs) w:=fun w' m=>by
 have bA:=h.mod m fun k _ a=>a;obtain⟨eF,aP,a1,ax⟩:=bA.ex;exact bz.Kl aP (a1.rZ ur) fun i h1 U=>(ax i h1 U).here
theorem fs.under(h:fs C e sz base w v xs)(aD:base≤w.heap.size):∀k,vD v base k→k<w.heap.size:=fun k hk=>by
 rcases hk with hk | hk
 ·exact(h.lt k hk).2
 ·omega
theorem ev.own{p:World→Prop}{av:World}(aI:ev w p av)(h:fs C e sz base w v xs)(aD:base≤w.heap.size):ga (vD v base) p av:=aI.mono fun i _ ad=>h.under aD i ad
theorem fs.box{t:TypeId}{k:Nat}{c:Array Value}(a1:fs C e sz base w v xs)(a8:w.grownBy w' v.ownBlock)(hk:w.heap[k]? = some (.cells c t))(aL:t≠e):w'.heap[k]? = some (.cells c t):=by
 obtain⟨eF,_,a1,_⟩:=a1.ex;rw[a8.block k (cM hk) fun e'=>?_]
 ·exact hk
 rcases a1.2 with ⟨rfl,_⟩ | ⟨g,cap,c2,rfl,_,yK,_⟩
 ·cases e'
 ·simp only[Value.ownBlock,Option.some.injEq] at e';subst e';rw[yK] at hk;injection hk with hk
  injection hk with _ hk
  exact aL hk.symm
theorem fs.mv{w0:World}(a1:fs C e sz base w v xs)(he:Ext w0 w)(a8:w.grownBy w' v.ownBlock)(aD:w0.heap.size≤base):Ext w0 w':=he.grown a8 fun k hk=>Nat.le_trans aD (a1.lt k hk).1
theorem K.Av{P:Program}{c6:Value→World→Prop}{ty:TypeId}{b:Nat}{a:Addr}{c:Nat}{cs:List Value}{x:α}{t}(ay:fs C e sz base w v xs)(ax:fi w a cs)(cK:ga (vD v base) (fun w=>C w cs x) w)
  (c8:cs.length=sz)(h1:∀u∈cs,u.oneCell'=true)(aD:(xs.length+1)*b≤140737488355328)(jA:xs.length+1≤maxLen)(iP:base≤w.heap.size)
  (hk:∀b8 w',fs C e sz base w' b8 (xs++[x])→w.grownBy w' v.ownBlock→c6 b8 w'):ki P ty e sz b v (.slice (some a) 1 c) w c6 t:=by
 obtain⟨eF,aP,a1,ia⟩:=ay.ex;refine K.ud (enc:=rj) (ys:=[(⟨cs,c8,h1⟩:nD sz)]) a1 ur (by simpa[rj] using ax) rfl HZ (by rw[aP];exact aD) (by rw[aP];exact jA) iP fun b8 w' k0 a8 jB=>hk b8 w' ⟨eF++[⟨cs,c8,h1⟩],by simp[aP],k0,fun i h1 U=>?_⟩ a8;have hm:Mod (fun k=>v.ownBlock=some k) w w':=Mod.grown a8 fun k hk=>hk;have fI:∀k,k<w.heap.size→b8.ownBlock=some k→vD v base k:=fun k hk he=>by
  rcases jB with e | e
  ·exact .inl (e ▸ he)
  ·rw[e] at he;injection he with he;omega
 have key:∀{p:World→Prop},ga (vD v base) p w→ga (vD b8 base) p w':=fun {p} h=>h.move hm (fun i _ a=>.inl a) fun i ad a=>by
  rcases a with a | a
  ·exact fI i ad a
  ·exact .inr a
 rw[List.length_append] at h1 U;by_cases ad:i<eF.length
 ·have Fs:i<xs.length:=by omega
  have:=key (ia i ad Fs)
  simpa[List.getElem_append,ad,Fs] using this
 ·have bP:i=eF.length:=by simp at h1;omega
  subst bP;have ba:¬eF.length<xs.length:=by omega
  have:=key cK
  simpa[List.getElem_append,ba] using this
end
section
variable{α:Type}{enc:α→List Value}{e:TypeId}{sz base:Nat}{w w':World}{v:Value}{xs:List α}
theorem bs.box{t:TypeId}{k:Nat}{c:Array Value}(a1:bs enc e sz base w v xs)(a8:w.grownBy w' v.ownBlock)(hk:w.heap[k]? = some (.cells c t))(aL:t≠e):w'.heap[k]? = some (.cells c t):=by
 rw[a8.block k (cM hk) fun e'=>?_]
 ·exact hk
 ·obtain⟨cur,h⟩:=a1.aW k e'.symm;rw[hk] at h;injection h with h;injection h with _ h;exact aL h
theorem bs.mv{w0:World}(a1:bs enc e sz base w v xs)(he:Ext w0 w)(a8:w.grownBy w' v.ownBlock)(aD:w0.heap.size≤base):Ext w0 w':=he.grown a8 fun k hk=>Nat.le_trans aD (a1.lt k hk).1
theorem K.mr{P:Program}{c6:Value→World→Prop}{ty:TypeId}{fS b:Nat}{y:α}{cs:List Value}{t}(ay:bs enc e sz base w v xs)(ax:w.heap[b]? = some (.cells cs.toArray e))(fV:cs=enc y)(c8:∀x,(enc x).length=sz)(h1:∀y,∀u∈enc y,u.oneCell'=true)
  (aD:(xs.length+1)*fS≤140737488355328)(jA:xs.length+1≤maxLen)(iP:base≤w.heap.size)
  (hk:∀bl n c w',bs enc e sz base w' (.slice bl n c) (xs++[y])→w.grownBy w' v.ownBlock→c6 (.slice bl n c) w'):ki P ty e sz fS v (.slice (some ⟨b,0,none⟩) 1 1) w c6 t:=by
 refine K.ud (ys:=[y]) ay c8 (by subst fV;simpa using gK ax) rfl h1 aD jA iP fun b8 w' a1 a8 _=>?_;obtain⟨bl,cap,rfl,_⟩:=a1.form;exact hk _ _ _ _ a1 a8
end
theorem KS{α:Type}{l:List α}{k b:Nat}(hk:k<l.length)(aD:l.length*b≤140737488351232)(hm:l.length≤9223372036854775807):((l.take k).length+1)*b≤140737488355328∧(l.take k).length+1≤maxLen:=by
 have e:(l.take k).length=k:=by rw[List.length_take];omega
 rw[e]
 have:=Nat.mul_le_mul_right b (show k+1≤l.length from hk)
 exact⟨by omega,by unfold maxLen;omega⟩
theorem fs.snoc{α:Type}{C:World→List Value→α→Prop}{e:TypeId}{sz base:Nat}{w:World}{v:Value}{l:List α}{k:Nat}(hk:k<l.length)(h:fs C e sz base w v (l.take k++[l[k]])):fs C e sz base w v (l.take (k+1)):=by
 rw[List.take_succ_eq_append_getElem hk];exact h
theorem fs.done{α:Type}{C:World→List Value→α→Prop}{e:TypeId}{sz base:Nat}{w:World}{v:Value}{l:List α}{k:Nat}(hk:l.length≤k)(h:fs C e sz base w v (l.take k)):fs C e sz base w v l:=by
 rwa[List.take_of_length_le hk] at h
end bt
end
section
namespace bt
open Go Go.RowKit
inductive iw where
 | i
 | b
 | s
deriving DecidableEq
def iw.of:TypeDesc→Option iw
 | .int .i64=>some .i
 | .bool=>some .b
 | .string=>some .s
 | _=>none
theorem iw.adv{ox:TypeDesc}(h:iw.of ox=some .i):ox = .int .i64:=by unfold iw.of at h;split at h<;>simp_all
theorem iw.adu{ox:TypeDesc}(h:iw.of ox=some .b):ox = .bool:=by unfold iw.of at h;split at h<;>simp_all
theorem iw.adx{ox:TypeDesc}(h:iw.of ox=some .s):ox = .string:=by unfold iw.of at h;split at h<;>simp_all
def iw.ok:iw→Value→Prop
 | .i,v => ∃n,v = .int .i64 n
 | .b,v => ∃n,v = .bool n
 | .s,v => ∃n,v = .string n
def sv:List iw→List Value→Prop
 | [],[]=>True
 | k :: pP,v :: vs=>k.ok v∧sv pP vs
 | _,_=>False
theorem HK:∀{pP:List iw} {vs:List Value},sv pP vs→vs.length=pP.length
 | [],[],_=>rfl
 | _ :: _,_ :: _,h=>by simp[HK h.2]
 | [],_ :: _,h=>h.elim
 | _ :: _,[],h=>h.elim
def yA(P:Program):List Field→List iw→Nat→Bool
 | [],[],_=>true
 | f :: fR,k :: pP,n=>f.name != "_" && f.offset == n&&((P.underlying f.type).bind iw.of == some k)&&yA P fR pP (n+1)
 | _,_,_=>false
def H2(P:Program)(t:TypeId)(sig:List iw):Bool :=
 match P.underlying t with
 | some (.struct fR) => !P.stoodInHeld t && !P.eqGuardType P.depth t&&yA P fR.toList sig 0
 | _=>false
theorem drop_cons{α:Type}{l:List α}{n:Nat}{x:α}{r:List α}(h:l.drop n=x :: r):l[n]? = some x∧l.drop (n+1)=r:=by
 have h1:l[n]? = some x:=by
  have:=congrArg (·[0]?) h
  simpa using this
 refine⟨h1,?_⟩
 have:=congrArg (List.drop 1) h
 simpa[List.drop_drop] using this
theorem PR{P:Program}(w:World)(d:Nat)(xs ys:Array Value):∀(fR:List Field) (pP:List iw) (n:Nat),yA P fR pP n=true→sv pP (xs.toList.drop n)→sv pP (ys.toList.drop n) →
  ∃r:Bool,(Op.eqFields (d+1) xs ys fR).run P w = .ok r w∧(r=true↔xs.toList.drop n=ys.toList.drop n)
 | [],[],n,_,ar,cx=>by
  refine⟨true,by simp[Op.eqFields],?_⟩;have h1:=HK ar;have U:=HK cx;rw[List.eq_nil_of_length_eq_zero h1,List.eq_nil_of_length_eq_zero U];simp
 | [],_ :: _,_,h,_,_=>by simp[yA] at h
 | _ :: _,[],_,h,_,_=>by simp[yA] at h
 | f :: fR,k :: pP,n,h,ar,cx=>by
  simp only[yA,Bool.and_eq_true,bne_iff_ne,ne_eq,beq_iff_eq] at h;obtain⟨⟨⟨h1,U⟩,ag⟩,aK⟩:=h;obtain⟨ox,hu,hk⟩:=Option.bind_eq_some_iff.1 ag;cases IU:xs.toList.drop n with
  | nil=>rw[IU] at ar;exact ar.elim
  | cons x rx =>
   cases IV:ys.toList.drop n with
   | nil=>rw[IV] at cx;exact cx.elim
   | cons y Uj =>
    rw[IU] at ar;rw[IV] at cx;obtain⟨ex,PY⟩:=drop_cons IU;obtain⟨Yw,PZ⟩:=drop_cons IV;obtain⟨r,bd,Rb⟩:=PR w d xs ys fR pP (n+1) aK (by rw[PY];exact ar.2) (by rw[PZ];exact cx.2);have bp:qi P f.type=some false:=by
     unfold qi;rw[hu];cases ox<;>simp[iw.of] at hk<;>rfl
    have Yi:xs[n]? = some x:=by rw[←Array.getElem?_toList];exact ex
    have Yx:ys[n]? = some y:=by rw[←Array.getElem?_toList];exact Yw
    have aec:(part f.type xs f.offset).run P w = .ok x w:=by simp[part,xt bp,U,Yi]
    have aed:(part f.type ys f.offset).run P w = .ok y w:=by simp[part,xt bp,U,Yx]
    have Ks:∃q:Bool,(Op.equalIn (d+1) f.type x y).run P w = .ok q w∧(q=true↔x=y):=by
     cases k with
     | i =>
      obtain⟨a,rfl⟩:=ar.1;obtain⟨b,rfl⟩:=cx.1;have aL:=iw.adv hk;subst aL;exact⟨_,run_equalIn_int w d f.type .i64 .i64 a b hu,by simp⟩
     | b =>
      obtain⟨a,rfl⟩:=ar.1;obtain⟨b,rfl⟩:=cx.1;have aL:=iw.adu hk;subst aL;exact⟨_,run_equalIn_bool' w d f.type a b hu,by simp⟩
     | s =>
      obtain⟨a,rfl⟩:=ar.1;obtain⟨b,rfl⟩:=cx.1;have aL:=iw.adx hk;subst aL;exact⟨_,run_equalIn_string w d f.type a b hu,by rw[←beq_toListBytes];simp⟩
    obtain⟨q,aB,Jr⟩:=Ks;refine⟨q&&r,?_,?_⟩
    ·simp only[Op.eqFields,h1,ne_eq,not_false_eq_true,if_true,Sem.run_bind,aec,aed,aB,Result.andThen_ok];cases q
     ·simp
     ·simpa using bd
    ·rw[PY,PZ] at Rb;simp only[Bool.and_eq_true,Jr,Rb,List.cons.injEq]
theorem afe{P:Program}{t:TypeId}{sig:List iw}(h:H2 P t sig=true)(w:World){xs ys:List Value}(ar:sv sig xs)(cx:sv sig ys)(x y:Operand) :
  ∃r:Bool,(r=true↔xs=ys)∧∀w,(do eqGuard .eql t x y (.agg xs.toArray) (.agg ys.toArray);binOp .eql t (.agg xs.toArray) (.agg ys.toArray):Sem Value).run P w = .ok (.bool r) w ∧
   (do eqGuard .neq t x y (.agg xs.toArray) (.agg ys.toArray);binOp .neq t (.agg xs.toArray) (.agg ys.toArray):Sem Value).run P w = .ok (.bool (!r)) w:=by
 unfold H2 at h;cases hu:P.underlying t with
 | none=>rw[hu] at h;cases h
 | some ox =>
  cases ox<;>simp[hu] at h;rename_i fR;obtain⟨⟨h1,U⟩,ag⟩:=h;have Q6:P.fieldsOf t=fR:=by simp[Program.fieldsOf,hu]
  have key:∀w,∃r:Bool,(Op.equalIn 10000 t (.agg xs.toArray) (.agg ys.toArray)).run P w = .ok r w∧(r=true↔xs=ys):=fun w=>by
   obtain⟨r,bd,ad⟩:=PR (P:=P) w 9998 xs.toArray ys.toArray fR.toList sig 0 ag (by simpa using ar) (by simpa using cx);refine⟨r,?_,by simpa using ad⟩;rw[run_equalIn_struct w 9999 t _ _ (by rw[Q6];exact hu) h1,Q6];exact bd
  obtain⟨r,_,ad⟩:=key w;refine⟨r,ad,fun w'=>?_⟩;obtain⟨ho,wO,cP⟩:=key w'
  have:ho=r:=by
   rcases Bool.eq_false_or_eq_true r with e | e
   ·rw[e];exact cP.2 (ad.1 e)
   ·rw[e];exact Bool.eq_false_iff.2 fun h=>by rw[ad.2 (cP.1 h)] at e;cases e
  subst this;refine⟨?_,?_⟩
  ·simp only[Sem.run_bind,run_eqGuard_agg w' .eql t x y _ _ U,Result.andThen_ok,run_eql_struct,wO]
  ·simp only[Sem.run_bind,run_eqGuard_agg w' .neq t x y _ _ U,Result.andThen_ok,run_neq_struct,wO]
section
variable{P:Program}{aF:Value→Prop}{cW dd:Operand}
theorem K.adj{t:TypeId}{sig:List iw}{xs ys:List Value}{r2}(h:H2 P t sig=true)(ar:sv sig xs)(cx:sv sig ys)(hk:∀r:Bool,(r=true↔xs≠ys)→aF (.bool r)):gx P .neq t cW dd (.agg xs.toArray) (.agg ys.toArray) aF r2:=by
 obtain⟨r,h1,U⟩:=afe h default ar cx cW dd;exact K.bin (fun w=>(U w).2) (hk (!r) (by rw[ne_eq,←h1];cases r<;>simp))
theorem K.Ye{t e:TypeId}{a:Option Addr}{l c:Nat}{r2}(h:P.underlying t=some (.slice e))(hk:aF (.bool a.isNone)):gx P .eql t cW dd (.slice a l c) (.slice none 0 0) aF r2 :=
 K.bin (v:=.bool a.isNone) (fun w=>by simp[eqGuard_at_slice,binOp,run_equal_slice_nil w t e a l c h]) hk
end
end bt
end
section
namespace bt
open Go Go.RowKit
section
variable{P:Program}{w0 w:World}{S:Fr}{K:Fr→World→Prop}
def strip:eE→List Step×eE
 | .take s r=>(s :: (strip r).1,(strip r).2)
 | t=>([],t)
theorem Dr:∀(t:eE) (S:Fr),qV P (strip t).1 S w0 (fun a6=>mN P w0 (strip t).2 a6 w K)→mN P w0 t S w K
 | .take ⟨d,none,i⟩ r,S,h=>by
  show lb P i S w0 fun v=>mN P w0 r (put S d v) w K;have bA:lb P i S w0 fun v=>qV P (strip r).1 (put S d v) w0 (fun a6=>mN P w0 (strip r).2 a6 w K):=h;exact lb.mono (fun v aS=>Dr r _ aS) bA
 | .take ⟨d,some (j,b),i⟩ r,S,h=>by
  rcases h with ⟨t,aL,h1,U⟩ | ⟨hu,ag⟩
  ·exact .inl ⟨t,aL,fun e=>lb.mono (fun v aS=>Dr r _ aS) (h1 e),fun e=>Dr r _ (U e)⟩
  ·exact .inr ⟨hu,Dr r _ ag⟩
 | .done,S,h=>h
 | .nil,S,h=>h
 | .alt _ _ _,S,h=>h
 | .b0 _ _ _,S,h=>h
 | .wide _,S,h=>h
theorem UE{b n:Nat}{c cs:Array Value}{e:TypeId}{hb:World→Prop}(aD:w.heap[b]? = some (.cells c e))(ax:c.size=n)(aI:cs.size=n)(h1:∀x∈cs.toList,x.oneCell'=true)
  (hk:∀av,dK b w av→av.heap[b]? = some (.cells cs e)→hb av):xX n (.pointer (some ⟨b,0,none⟩)) (.agg cs) w hb :=
 K5 aI (fun j aU=>⟨⟨_,fp aD (Array.getElem?_eq_getElem (by omega))⟩,by rw[add_eq];simp[World.frozen?,aD]⟩) h1 (hk _ (dK.mM cs.toList w ⟨b,0,none⟩ 0) (Up aD (by omega)))
structure q8 where
 d:Nat
 ty:TypeId
 z:Array Value
 n:Nat
 x:Nat
def q8.new(v:q8):Step:=⟨some v.d,none,.e (.new v.ty (.agg v.z))⟩
def q8.st(v:q8):Step:=⟨none,none,.e (.qW v.n (.tmp v.d) (.tmp v.x))⟩
theorem V6(v:q8)(k:Fr→World→Prop):Au P w0 v.st S w k=xX v.n (S v.d) (S v.x) w (fun w'=>Ext w0 w'∧k S w'):=rfl
theorem YR(v:q8)(k:Fr→World→Prop):nh P v.st S w k=xX v.n (S v.d) (S v.x) w (fun w'=>k S w'):=rfl
def UW(a b:q8):eE :=
 .alt a.new (.alt b.new (.alt a.st (.b0 b.st .done .nil) .nil) .nil) (.alt b.new (.alt a.new (.alt a.st (.b0 b.st .done .nil) .nil) .nil) .nil)
theorem ago(S:Fr){a b:Nat}(h:a≠b)(x y:Value):b7 (b7 S a x) b y=b7 (b7 S b y) a x:=by
 funext t;unfold b7;split<;>split<;>simp_all
theorem agj(a b:q8){mj mO:List Value}(br:(a.d != b.d&&a.x != a.d&&a.x != b.d&&b.x != a.d&&b.x != b.d)=true)(JM:a.z.size=a.n)(JN:b.z.size=b.n)(bp:S a.x = .agg mj.toArray)(aD:S b.x = .agg mO.toArray)(aaC:mj.length=a.n)(Rq:mO.length=b.n)
  (Zf:∀u∈mj,u.oneCell'=true)(Zg:∀u∈mO,u.oneCell'=true)
  (hk:∀w' gz fS,Ext w0 w'→w0.heap.size≤gz→w0.heap.size≤fS→gz≠fS→w'.heap[gz]? = some (.cells mj.toArray a.ty)→w'.heap[fS]? = some (.cells mO.toArray b.ty) →
   K (b7 (b7 S a.d (.pointer (some ⟨gz,0,none⟩))) b.d (.pointer (some ⟨fS,0,none⟩))) w'):mN P w0 (UW a b) S w0 K:=by
 simp only[Bool.and_eq_true,bne_iff_ne,ne_eq] at br;obtain⟨⟨⟨⟨d1,d2⟩,d3⟩,d4⟩,d5⟩:=br;have fin:∀(a6:Fr) (aT:World) (gz fS:Nat),a6=b7 (b7 S a.d (.pointer (some ⟨gz,0,none⟩))) b.d (.pointer (some ⟨fS,0,none⟩))→Ext w0 aT→w0.heap.size≤gz→w0.heap.size≤fS→gz≠fS →
   aT.heap[gz]? = some (.cells a.z a.ty)→aT.heap[fS]? = some (.cells b.z b.ty)→mN P w0 (.alt a.st (.b0 b.st .done .nil) .nil) a6 aT K:=by
  rintro a6 aT gz fS rfl he h1 U dg Bq mC;refine⟨?_,trivial⟩;have bP:b7 (b7 S a.d (.pointer (some ⟨gz,0,none⟩))) b.d (.pointer (some ⟨fS,0,none⟩)) a.d = .pointer (some ⟨gz,0,none⟩):=by simp[b7,d1]
  have ba:b7 (b7 S a.d (.pointer (some ⟨gz,0,none⟩))) b.d (.pointer (some ⟨fS,0,none⟩)) a.x = .agg mj.toArray:=by simp[b7,d2,d3,bp]
  have bQ:b7 (b7 S a.d (.pointer (some ⟨gz,0,none⟩))) b.d (.pointer (some ⟨fS,0,none⟩)) b.d = .pointer (some ⟨fS,0,none⟩):=by simp[b7]
  have b3:b7 (b7 S a.d (.pointer (some ⟨gz,0,none⟩))) b.d (.pointer (some ⟨fS,0,none⟩)) b.x = .agg mO.toArray:=by simp[b7,d4,d5,aD]
  rw[V6,bP,ba];refine UE Bq JM (by simpa using aaC) (by simpa using Zf) fun bf eZ bK=>⟨eZ.ext he h1,?_⟩;refine⟨?_,trivial⟩;rw[YR,bQ,b3];refine UE (eZ.obj mC (Ne.symm dg)) JN (by simpa using Rq) (by simpa using Zg) fun bq ee bI=>?_;exact hk bq gz fS (ee.ext (eZ.ext he h1) U) h1 U dg (ee.obj bK dg) bI
 have m1:∀(au o':Obj),((w0.alloc au).alloc o').heap[w0.heap.size]? = some au:=fun au o'=>((Ext.refl (w0.alloc au)).alloc o').obj (heap_alloc_new w0 au);have m2:∀(au o':Obj),((w0.alloc au).alloc o').heap[w0.heap.size+1]? = some o':=fun au o'=>by
  have:=heap_alloc_new (w0.alloc au) o'
  rwa[World.size_alloc] at this
 refine⟨⟨(Ext.refl _).alloc _,⟨((Ext.refl _).alloc _).alloc _,?_⟩,trivial⟩,⟨(Ext.refl _).alloc _,⟨((Ext.refl _).alloc _).alloc _,?_⟩,trivial⟩,trivial⟩
 ·refine fin _ _ w0.heap.size (w0.heap.size+1) ?_ (((Ext.refl _).alloc _).alloc _) (Nat.le_refl _) (by omega) (by omega) (m1 _ _) (m2 _ _);show b7 (b7 S a.d _) b.d (.pointer (some ⟨(w0.alloc _).heap.size,0,none⟩))=_;rw[World.size_alloc]
 ·refine fin _ _ (w0.heap.size+1) w0.heap.size ?_ (((Ext.refl _).alloc _).alloc _) (by omega) (Nat.le_refl _) (by omega) (m2 _ _) (m1 _ _);show b7 (b7 S b.d _) a.d (.pointer (some ⟨(w0.alloc _).heap.size,0,none⟩))=_;rw[World.size_alloc,ago S (Ne.symm d1)]
theorem K.two{Q:dN→Fr→World→Prop}{t:eE}{mZ:eV}{r2}(l:List Step)(pE:Nat)(K9:TypeId)(DH:Array Value)(kd xn yu:Nat)(vp:TypeId)(DI:Array Value)(iF xo:Nat)(aL:strip t=(l,UW ⟨pE,K9,DH,kd,xn⟩ ⟨yu,vp,DI,iF,xo⟩))(br:(pE != yu&&xn != pE&&xn != yu&&xo != pE&&xo != yu)=true)(JM:DH.size=kd)(JN:DI.size=iF)
  (hk:∀av,Ext w av→k5 P l S av (fun a6 => ∃mj mO:List Value,a6 xn = .agg mj.toArray∧a6 xo = .agg mO.toArray∧mj.length=kd∧mO.length=iF∧(∀u∈mj,u.oneCell'=true)∧(∀u∈mO,u.oneCell'=true) ∧
   ∀w' gz fS,Ext av w'→av.heap.size≤gz→av.heap.size≤fS→gz≠fS→w'.heap[gz]? = some (.cells mj.toArray K9)→w'.heap[fS]? = some (.cells mO.toArray vp) →
    dT P mZ Q (b7 (b7 a6 pE (.pointer (some ⟨gz,0,none⟩))) yu (.pointer (some ⟨fS,0,none⟩))) w' ⟨⟩) ⟨⟩):dT P (.seq (.dS t) mZ) Q S w r2:=by
 unfold dT k5 at *;show dM P (.dS t) _ S w;intro av he;refine Dr t S ?_;have h:=hk av he;rw[aL];refine zw l S av _ _ (fun a6 _ bA=>?_) h;obtain⟨mj,mO,h1,U,ag,aK,bc,bD,b6⟩:=bA;exact agj ⟨pE,K9,DH,kd,xn⟩ ⟨yu,vp,DI,iF,xo⟩ br JM JN h1 U ag aK bc bD fun w' gz fS bP ba bQ b3 cc c0=>b6 w' gz fS bP ba bQ b3 cc c0
def iL(w0 w w':World)(p:World→Prop):Prop := ∀bZ,Ext w0 bZ→w'.heap.size≤bZ.heap.size→(∀k,w.heap.size≤k→k<w'.heap.size→bZ.heap[k]? = w'.heap[k]?)→p bZ
structure ag0(w0:World)(a b:q8)(S:Fr)(xn xo:List Value→World→Prop)(iB Ia kd iF:Bool)(a6:Fr)(w:World)(mj mO:List Value)(oi bp hF aD tt tu:Nat):Prop where
 ext:Ext w0 w
 mw:∀t,t≠a.d→t≠b.d→t≠a.x→t≠b.x→a6 t=S t
 dy:iB=true→a6 a.x = .agg mj.toArray∧mj.length=a.n∧(∀u∈mj,u.oneCell'=true)∧bp≤w.heap.size∧∀bZ,Ext w0 bZ→w.heap.size≤bZ.heap.size→(∀k,oi≤k→k<bp→bZ.heap[k]? = w.heap[k]?)→xn mj bZ
 bC:Ia=true→a6 b.x = .agg mO.toArray∧mO.length=b.n∧(∀u∈mO,u.oneCell'=true)∧aD≤w.heap.size∧∀bZ,Ext w0 bZ→w.heap.size≤bZ.heap.size→(∀k,hF≤k→k<aD→bZ.heap[k]? = w.heap[k]?)→xo mO bZ
 a2:kd=true→a6 a.d = .pointer (some ⟨tt,0,none⟩)∧w0.heap.size≤tt∧tt<w.heap.size∧w.heap[tt]? = some (.cells a.z a.ty)
 ca:iF=true→a6 b.d = .pointer (some ⟨tu,0,none⟩)∧w0.heap.size≤tu∧tu<w.heap.size∧w.heap[tu]? = some (.cells b.z b.ty)
 jt:iB=true→kd=true→tt<oi∨bp≤tt
 sh:iB=true→iF=true→tu<oi∨bp≤tu
 gz:Ia=true→kd=true→tt<hF∨aD≤tt
 fS:Ia=true→iF=true→tu<hF∨aD≤tu
 ajc:kd=true→iF=true→tt≠tu
structure agZ(a b:q8):Prop where
 d12:a.d≠b.d
 d13:a.d≠a.x
 d14:a.d≠b.x
 d23:b.d≠a.x
 d24:b.d≠b.x
 d34:a.x≠b.x
end
end bt
end
section
namespace bt
open Go Go.RowKit
theorem K.wide{P:Program}{av w:World}{S:Fr}{t:eE}{K:Fr→World→Prop}{r2}(h:∃C:World→Prop,C w∧dC P C t S w K):fh P av (.wide t) S w K r2:=by
 unfold fh;exact h
section
variable{P:Program}{C:World→Prop}{S:Fr}{w:World}{K:Fr→World→Prop}
theorem dC.iB{k d x:Nat}{r:eE}{a:Addr}(ar:S x = .pointer (some a))(h:dC P C r (b7 S d (.pointer (some (a.add k)))) w K):dC P C (.take ⟨some d,none,.p (.iB k (.tmp x))⟩ r) S w K:=⟨a,ar,h⟩
theorem dC.ld{d x:Nat}{r:eE}{a:Addr}{v:Value}(ar:S x = .pointer (some a))(aS:∀w,C w→w.cell? a=some v)(h:dC P C r (b7 S d v) w K):dC P C (.take ⟨some d,none,.r (.ld (.tmp x))⟩ r) S w K :=
 ⟨v,fun w hw=>⟨a,v,ar,aS w hw,rfl⟩,h⟩
theorem dC.x1{s:Step}{r:eE}(h:kr P C s S w fun S w=>dC P C r S w K):dC P C (.alt s r .nil) S w K:=⟨h,trivial⟩
theorem dC.wj{s:Step}{r:eE}(h:nh P s S w fun S w=>dC P C r S w K):dC P C (.b0 s r .nil) S w K:=⟨h,trivial⟩
end
theorem kr.e{P:Program}{C:World→Prop}{i:p8}{d:Nat}{S:Fr}{w:World}{k:Fr→World→Prop}(h:lO P i S w fun v w'=>C w'∧k (put S (some d) v) w'):kr P C ⟨some d,none,.e i⟩ S w k:=h
theorem nh.e{P:Program}{i:p8}{d:Nat}{S:Fr}{w:World}{k:Fr→World→Prop}(h:lO P i S w fun v w'=>k (put S (some d) v) w'):nh P ⟨some d,none,.e i⟩ S w k:=h
theorem Wa{P:Program}{ty e:TypeId}{sz b:Nat}{s x:Value}{w:World}{K:Value→World→Prop}(h:∀t,ki P ty e sz b s x w K t):vr P ty e sz b s x w K:=by
 have:=h ⟨⟩
 unfold ki at this;exact this
theorem K6{x v:Value}{w:World}{K:World→Prop}(h:∀t,q7 x v w K t):vK x v w K:=by
 have:=h ⟨⟩
 unfold q7 at this;exact this
abbrev cj(s:Option Addr×Nat×Nat):Value:=.slice s.1 s.2.1 s.2.2
def di{β:Type}(f:Nat→β)(i:Nat)(v:β):Nat→β:=fun j=>if j=i then v else f j
theorem F8{β:Type}(f:Nat→β)(i:Nat)(v:β):di f i v i=v:=by simp[di]
theorem C1{β:Type}(f:Nat→β){i j:Nat}(v:β)(h:j≠i):di f i v j=f j:=by simp[di,h]
structure hx{α:Type}(enc:α→List Value)(e:TypeId)(sz base:Nat)(w:World)(n:Nat)(vs:Nat→Option Addr×Nat×Nat)(xs:Nat→List α):Prop where
 own:∀i,i<n→bs enc e sz base w (cj (vs i)) (xs i)
 apart:∀i j k,i<n→j<n→i≠j→(cj (vs i)).ownBlock=some k→(cj (vs j)).ownBlock≠some k
section
variable{α:Type}{enc:α→List Value}{e:TypeId}{sz base n:Nat}{w w':World}{vs:Nat→Option Addr×Nat×Nat}{xs:Nat→List α}
theorem hx.mod{A:Nat→Prop}(h:hx enc e sz base w n vs xs)(m:Mod A w w')(e2:∀i k,i<n→(cj (vs i)).ownBlock=some k→¬A k):hx enc e sz base w' n vs xs :=
 ⟨fun i ad=>(h.own i ad).mod m (e2 i · ad),h.apart⟩
theorem hx.ext(h:hx enc e sz base w n vs xs)(m:Ext w w'):hx enc e sz base w' n vs xs:=h.mod (A:=fun _=>False) m.mod fun _ _ _ _ a=>a
theorem hx.not(h:hx enc e sz base w n vs xs){k:Nat}{c:Array Value}{t:TypeId}(hk:w.heap[k]? = some (.cells c t))(aL:t≠e):∀i,i<n→(cj (vs i)).ownBlock≠some k:=fun i ad he=>by
 obtain⟨cur,U⟩:=(h.own i ad).aW k he;rw[hk] at U;injection U with U;injection U with _ U;exact aL U
theorem hx.lt(h:hx enc e sz base w n vs xs):∀i k,i<n→(cj (vs i)).ownBlock=some k→base≤k∧k<w.heap.size:=fun i k ad he=>(h.own i ad).lt k he
theorem hx.app{P:Program}{c6:Value→World→Prop}{ty:TypeId}{b:Nat}{a:Addr}{c:Nat}{y:α}(i:Nat)(ad:i<n)(h:hx enc e sz base w n vs xs)(c8:∀x,(enc x).length=sz)(ax:fi w a (enc y))(h1:∀y,∀u∈enc y,u.oneCell'=true)
  (aD:((xs i).length+1)*b≤140737488355328)(jA:(xs i).length+1≤maxLen)(iP:base≤w.heap.size)
  (hk:∀b8 w',hx enc e sz base w' n (di vs i b8) (di xs i (xs i++[y]))→w.grownBy w' (cj (vs i)).ownBlock→b8.2.1=(xs i).length+1→c6 (cj b8) w'):vr P ty e sz b (cj (vs i)) (.slice (some a) 1 c) w c6:=by
 refine Wa fun t=>K.ud (ys:=[y]) (h.own i ad) c8 (by simpa using ax) rfl h1 aD jA iP fun b8 w' a1 a8 jB=>?_;obtain⟨bl,cap,rfl,_⟩:=a1.form;refine hk (bl,(xs i++[y]).length,cap) w' ⟨fun j aU=>?_,fun j JU k aU ef dg he=>?_⟩ a8 (by simp)
 ·by_cases gv:j=i
  ·subst gv;rw[F8,F8];exact a1
  ·rw[C1 _ _ gv,C1 _ _ gv];exact(h.own j aU).mod (A:=fun k=>(cj (vs i)).ownBlock=some k) (Mod.grown a8 fun k hk=>hk) fun k hk a=>h.apart j i k aU ad gv hk a
 ·have key:∀q,q<n→q≠i→∀k,(cj (vs q)).ownBlock=some k→(Value.slice bl (xs i++[y]).length cap).ownBlock≠some k:=fun q aB Jr k hk he=>by
   rcases jB with e | e
   ·rw[e] at he;exact h.apart q i k aB ad Jr hk he
   ·rw[e] at he;injection he with he;have:=(h.lt q k aB hk).2;omega
  by_cases gv:j=i
  ·subst gv;rw[F8] at he;rw[C1 _ _ (Ne.symm dg)];exact fun U=>key JU ef (Ne.symm dg) k U he
  ·rw[C1 _ _ gv] at he;by_cases Rl:JU=i
   ·subst Rl;rw[F8];exact key j aU gv k he
   ·rw[C1 _ _ Rl];exact h.apart j JU k aU ef dg he
end
end bt
end
section
namespace bt
open Go Go.RowKit
theorem bz.sub{α:Type}{sz:Nat}{R:World→Addr→α→Prop}{w:World}{bl:Option Addr}{n c:Nat}{xs:List α}(h:bz sz R w (.slice bl n c) xs)(l u:Nat)(aP:l≤u)(hu:u≤xs.length) :
  bz sz R w (.slice (if c=l then bl else bl.map (·.add (l*sz))) (u - l) (c - l)) ((xs.drop l).take (u - l)) :=
 (h.tail l (by omega)).head (u - l) (by rw[List.length_drop];omega)
section
variable{P:Program}{aF:Value→Prop}{S:Fr}{w:World}
theorem K.Gi{α:Type}{sz n cap:Nat}{R:World→Addr→α→Prop}{bl:Option Addr}{x y:Operand}{k k':IntKind}{xs:List α}{t}(l u:Nat)(ay:bz sz R w (.slice bl n cap) xs)(ar:bb S x = .int k (l:Int))(cx:bb S y = .int k' (u:Int))(aP:l≤u)(hu:u≤xs.length)
  (hk:∀au c,bz sz R w (.slice au (u - l) c) ((xs.drop l).take (u - l))→aF (.slice au (u - l) c)):sg S sz (.slice bl n cap) (some x) (some y) none aF t:=by
 obtain⟨bP,ba,bQ⟩:=ay.len;refine K.iW l u cap (by simp[fN,ar]) (by simp[fN,cx]) (by simp[fN]) ⟨aP,by omega,Nat.le_refl _⟩ (by simp) ?_;exact hk _ _ (ay.sub l u aP hu)
theorem K.acD{b i j:Nat}{c:List Value}{ty:TypeId}{f:Nat×Nat}{v:Value}{w0:World}{t}(aD:w0.heap[b]? = some (.cells c.toArray ty f))(he:Ext w0 w)(aU:c[i+j]? = some v)(hk:aF v):pr (.pointer (some ((Addr.add ⟨b,0,none⟩ i).add j))) w aF t:=by
 rw[add_add];exact K.rO aD he aU hk
end
theorem al{A B:Prop}(k:B)(h:tT B→A:=by
 intro q
 (repeat' first
 | assumption
 | exact Ext.refl _
 | refine Ext.trans ?_ (by assumption)
 | simp -dsimp only[cJ,cw,Nat.reduceAdd,Nat.reduceEqDiff,reduceIte,reduceCtorEq,cU,tE,tD,td,tc,sK,sJ,List.cons_append,List.nil_append]
 | refine K.wrap (by omega) ?_
 | refine K.rO (by assumption) ?_ rfl ?_
 | refine K.pQ (by assumption) ?_ rfl ?_
 | refine K.s9 (by omega) ?_
 | refine K.su (by first | assumption | omega) ?_
 | refine K.ss (by first | assumption | omega) ?_
 | refine K.qs (by assumption) ?_
 | refine K.qq (by assumption) ?_
 | refine K.tg (by assumption) ?_ (by omega) rfl ?_
 | refine K.th (by assumption) ?_ (by omega) rfl ?_
 | refine K.tf (by assumption) ?_ (by omega) rfl ?_
 | refine K.acD (by assumption) ?_ rfl ?_
 | refine K.J4 (by assumption) ?_ rfl ?_
 | refine K.J3 (by assumption) ?_ rfl ?_
 | refine K.gm (by assumption) ?_ rfl ?_
 | refine K.rS (fun _=>by (simp -dsimp only[cJ,Nat.reduceAdd,Nat.reduceEqDiff,reduceIte,reduceCtorEq,cU]);rfl) rfl rfl (by first | assumption | (simp[Value.oneCell',o.c3.enc,o.Ref.enc,o.Node.enc,o.Scalar.enc,o.Var.enc,o.c5.enc,o.Act.enc,o.dG.enc,o.dj.enc,o.kn.enc];done)) ?_
 | refine K.new ?_
 | refine K.k6 (by assumption) rfl rfl (by first | assumption | (simp[Value.oneCell',o.c3.enc,o.Ref.enc,o.Node.enc,o.Scalar.enc,o.Var.enc,o.c5.enc,o.Act.enc,o.dG.enc,o.dj.enc,o.kn.enc];done)) ?_
 | refine K.st1 (by assumption) (Nat.le_of_ble_eq_true rfl) rfl ?_
 | refine K.r0 (by assumption) (Nat.le_of_ble_eq_true rfl) rfl ?_
 | refine K.kt (by (simp only[ew,lay,nO,fv,cd,Value.cells,Nat.reduceAdd,Nat.reduceEqDiff,reduceIte,List.range,List.range.loop,List.map_cons,List.map_nil]);rfl) ?_
 | refine K.cF (by (simp only[ew,lay,nO,fv,cd,Value.cells,Nat.reduceAdd,Nat.reduceEqDiff,reduceIte]);rfl) ?_)
 exact q.out):A:=h ⟨k⟩
end bt
end
section
namespace o
open Go
structure Scope where
 scalars:List Scalar
 vars:List Var
 aJ:List c5
 procs:List dj
 locals:List Var
 self:Int
structure Env where
 vars:List (List Int)
 lens:List Int
 locals:List Int
 at_:List (List Int)
 self:Int
def nth{α:Type}(l:List α)(n:Int):Option α:=if 0≤n then l[n.toNat]? else none
theorem hX{α:Type}{l:List α}{n:Int}(h:0≤n)(U:n<l.length):nth l n=some (l[n.toNat]'(by omega)):=by
 unfold nth;rw[if_pos h,List.getElem?_eq_getElem]
theorem gQ{α:Type}{l:List α}{n:Int}(h:n<0∨(l.length:Int)≤n):nth l n=none:=by
 unfold nth;split
 ·rw[List.getElem?_eq_none (by omega)]
 ·rfl
def within(n:Int):Bool:=decide (-1048576≤n∧n≤1048576)
def tell(f:Int→Int→Int)(a b:Int):Int×Bool:=if within a&&within b&&within (f a b) then (f a b,true) else (0,false)
def bit(b:Bool):Int:=if b then 1 else 0
def eK(op:Int):Int:=if op=3 then 1 else if 1≤op∧op≤8 then 0 else if op=9∨op=10 then 1 else if 11≤op∧op≤19 then 2 else -1
def y2(op:Int):Bool:=decide (9≤op∧op≤19)
structure oH where
 parts:Int
 il:Int
 makes:Int
 Ps:Int→Int→Int×Bool
def xu(il:Int)(p:Int→Int→Bool):oH:=⟨2,il,1,fun a b=>(bit (p a b),true)⟩
def fX(x:Int):Option oH :=
 if x=9 then some ⟨1,1,1,fun a _=>(bit (decide (a=0)),true)⟩
 else if x=10 then some ⟨1,0,0,fun a _=>tell (· - ·) 0 a⟩
 else if x=11 then some ⟨2,0,0,tell (· + ·)⟩
 else if x=12 then some ⟨2,0,0,tell (· - ·)⟩
 else if x=13 then some ⟨2,0,0,tell (· * ·)⟩
 else if x=14 then some (xu (-1) fun a b=>decide (a=b))
 else if x=15 then some (xu (-1) fun a b => !decide (a=b))
 else if x=16 then some (xu 0 fun a b=>decide (a<b))
 else if x=17 then some (xu 0 fun a b=>decide (a≤b))
 else if x=18 then some (xu 1 fun a b => !decide (a=0) && !decide (b=0))
 else if x=19 then some (xu 1 fun a b => !decide (a=0) || !decide (b=0))
 else none
theorem Ti{x:Int}(h:y2 x=false):fX x=none:=by
 have bA:¬(9≤x∧x≤19):=by simpa[y2] using h
 unfold fX
 repeat rw[if_neg (by omega)]
theorem CV{x:Int}{au:oH}(h:fX x=some au):au.parts=eK x∧y2 x=true:=by
 unfold fX at h
 repeat' split at h
 all_goals first | (cases h;subst_vars;decide) | cases h
def stepG(f:Node→List Int→Int×Int)(x:Node)(st:List Int):Int×List Int :=
 if eK x.op<0 then (3,st) else if (st.length:Int)<eK x.op then (4,st)
 else if (f x st).2≠0 then ((f x st).2,st)
 else if (st.take (st.length - (eK x.op).toNat)++[(f x st).1]).length > 12 then (12,st) else (0,st.take (st.length - (eK x.op).toNat)++[(f x st).1])
def eL(f:Node→List Int→Int×Int):List Node→List Int→Int×List Int
 | [],st=>(0,st)
 | x :: r,st=>if (stepG f x st).1≠0 then stepG f x st else eL f r (stepG f x st).2
def jU(f:Node→List Int→Int×Int)(e:List Node):Int×Int :=
 if e.length > 24 then (0,5) else if e.length=0 then (0,4)
 else if (eL f e []).1≠0 then (0,(eL f e []).1) else if (eL f e []).2.length > 1 then (0,5) else ((eL f e []).2.headD 0,0)
theorem zE(f:Node→List Int→Int×Int):∀(a b:List Node) (st:List Int),eL f (a++b) st=if (eL f a st).1≠0 then eL f a st else eL f b (eL f a st).2
 | [],b,st=>by simp[eL]
 | x :: a,b,st=>by
  simp only[List.cons_append,eL];by_cases h:(stepG f x st).1=0
  ·simp only[h,ne_eq,not_true_eq_false,if_false];exact zE f a b _
  ·simp[h]
theorem vj{f:Node→List Int→Int×Int}{e:List Node}{k:Nat}{st:List Int}(hk:k<e.length)(h:eL f (e.take k) []=(0,st)):eL f (e.take (k+1)) []=stepG f e[k] st:=by
 rw[List.take_succ_eq_append_getElem hk,zE,h];simp only[ne_eq,not_true_eq_false,if_false,eL];split
 ·rfl
 ·rename_i U;simp at U;exact Prod.ext U.symm rfl
theorem T9{f:Node→List Int→Int×Int}{e:List Node}{k:Nat}{q:Int×List Int}(h:eL f (e.take k) []=q)(aj:q.1≠0):eL f e []=q:=by
 have:=zE f (e.take k) (e.drop k) []
 rw[List.take_append_drop,h,if_pos aj] at this;exact this
theorem KU{f:Node→List Int→Int×Int}{e:List Node}(sG:e.length≤24){k:Nat}(hk:k<e.length){st:List Int}(h:eL f (e.take k) []=(0,st))(aj:(stepG f e[k] st).1≠0):jU f e=(0,(stepG f e[k] st).1):=by
 have U:=vj hk h;have ag:=T9 U aj;unfold jU;rw[if_neg (by omega),if_neg (by omega),ag,if_pos aj]
theorem afY{f:Node→List Int→Int×Int}{x:Node}{st:List Int}(h:(stepG f x st).1=0):1≤(stepG f x st).2.length∧(stepG f x st).2.length≤12:=by
 unfold stepG at h ⊢
 repeat' split
 all_goals simp_all
theorem afX{f g:Node→List Int→Int×Int}{x:Node}{st:List Int}(h:0≤eK x.op→eK x.op≤st.length→(f x st).2=(g x st).2∧((f x st).2=0→(f x st).1=(g x st).1)):stepG f x st=stepG g x st:=by
 unfold stepG;split
 ·rfl
 ·split
  ·rfl
  ·obtain⟨h1,U⟩:=h (by omega) (by omega);rw[←h1];split
   ·rfl
   ·rename_i ag;simp at ag;rw[U ag]
def gP(n:Int)(s:Scope):Int×Bool:=if n=0 then (0,true) else if n<0∨(s.scalars.length:Int)<n then (0,false) else (1+n,true)
def fq(l:List Var)(n:Int)(s:Scope):Int×Int×Bool :=
 match nth l n with
 | some v=>((gP v.scalar s).1,(gP v.over s).1,(gP v.scalar s).2&&(gP v.over s).2)
 | none=>(0,0,false)
def iT(n:Int)(s:Scope):Int×Int:=match nth s.aJ n with | some c=>if (gP c.scalar s).2 then (0,0) else (0,8) | none=>(0,8)
def y5(n:Int)(s:Scope):Int×Int:=if 0≤n then (match nth s.procs (n.tdiv 16) with | some p=>if n.tmod 16<p.cz then (0,0) else (0,8) | none=>(0,8)) else (0,8)
def kK(x:Node)(s:Scope):Int×Int :=
 if x.op=5 then (if 1≤s.self∧s.self≤s.scalars.length then (1+s.self,0) else (0,8))
 else if x.op=6 then iT x.n s
 else if x.op=7 then y5 x.n s
 else if x.op=8 then (if 0≤x.n∧x.n<s.scalars.length then (2+x.n,0) else (0,8))
 else (0,8)
def ie(x:Node)(s:Scope)(top:Int):Int×Int :=
 if x.op=1 then (if within x.n then (0,0) else (0,10))
 else if x.op=2∨x.op=3∨x.op=4 then
  (let q:=fq (if x.op=4 then s.locals else s.vars) x.n s
   if q.2.2=false then (0,8) else if (x.op=3∧(q.2.1=0∨top≠q.2.1))∨(x.op≠3∧q.2.1≠0) then (0,9) else (q.1,0))
 else kK x s
def l9(au:oH)(l:List Int):Int×Int:=if l.all (fun k=>(decide (au.il = -1)||decide (k=au.il))&&decide (k=l.headD 0)) then (au.makes,0) else (0,9)
def fO(s:Scope)(x:Node)(st:List Int):Int×Int :=
 match fX x.op with
 | some au=>l9 au (st.drop (st.length - au.parts.toNat))
 | none=>ie x s (st.getLastD 0)
def kind(e:List Node)(s:Scope):Int×Int:=jU (fO s) e
def iH(l:List Int)(n:Int):Int×Int:=match nth l n with | some x=>(x,0) | none=>(0,8)
def h2(x:Node)(v:Env)(top:Int):Int×Int :=
 if x.op=1 then (if within x.n then (x.n,0) else (0,10))
 else if x.op=2 then (match nth v.vars x.n with | some l=>iH l 0 | none=>(0,8))
 else if x.op=3 then (match nth v.vars x.n with | some l=>(match nth l (top - 1) with | some y=>(y,0) | none=>(0,10)) | none=>(0,8))
 else if x.op=4 then iH v.locals x.n
 else if x.op=6 then iH v.lens x.n
 else if x.op=5 then (v.self,0)
 else if x.op=7 then (if 0≤x.n then (match nth v.at_ (x.n.tdiv 16) with | some l=>iH l (x.n.tmod 16) | none=>(0,8)) else (0,8))
 else (0,0)
def Lo(au:oH)(l:List Int):Int×Int:=let r:=au.Ps (l.headD 0) (l.getLastD 0);if r.2 then (r.1,0) else (0,10)
def gL(v:Env)(x:Node)(st:List Int):Int×Int :=
 match fX x.op with
 | some au=>Lo au (st.drop (st.length - au.parts.toNat))
 | none=>h2 x v (st.getLastD 0)
def eval(e:List Node)(v:Env):Int×Int:=jU (gL v) e
def jV(scalar over:Int)(s:Scope):Int×Bool :=
 if scalar<0∨(s.scalars.length:Int)<scalar∨over<0∨(s.scalars.length:Int)<over then (0,false) else if scalar=0 then (0,true) else (1+scalar,true)
theorem af7{a b:Int}{s:Scope}(h:(jV a b s).2=false):(jV a b s).1=0:=by
 unfold jV at h ⊢;by_cases q:a<0∨(s.scalars.length:Int)<a∨b<0∨(s.scalars.length:Int)<b
 ·rw[if_pos q]
 ·rw[if_neg q] at h;by_cases dP:a=0
  ·rw[if_pos dP] at h;cases h
  ·rw[if_neg dP] at h;cases h
def declared(l:List Var)(n:Int)(s:Scope):Option (Var×Int) :=
 match nth l n with
 | some v=>if (jV v.scalar v.over s).2 then some (v,(jV v.scalar v.over s).1) else none
 | none=>none
theorem XM{l:List Var}{n:Int}{s:Scope}{q:Var×Int}(h:declared l n s=some q):0≤q.1.over∧q.1.over≤s.scalars.length:=by
 unfold declared at h;cases aI:nth l n with
 | none=>rw[aI] at h;cases h
 | some v =>
  rw[aI] at h;simp only at h;by_cases aL:(jV v.scalar v.over s).2=true
  ·rw[if_pos aL] at h;unfold jV at aL;by_cases dO:v.scalar<0∨(s.scalars.length:Int)<v.scalar∨v.over<0∨(s.scalars.length:Int)<v.over
   ·rw[if_pos dO] at aL;cases aL
   ·injection h with h
    subst h;simp only;omega
  ·rw[if_neg aL] at h;cases h
def channel(n:Int)(s:Scope):Option Int :=
 match nth s.aJ n with
 | some c=>if (jV c.scalar 0 s).2 then some (jV c.scalar 0 s).1 else none
 | none=>none
def asked(e:List Node)(k:Int)(s:Scope):Int:=if (kind e s).2≠0 then (kind e s).2 else if (kind e s).1≠k then 9 else 0
def gh(a:Act):Bool:=decide (a.kind=4∨a.kind=5)
def C9(a:Act)(k:Int)(s:Scope):Int:=match declared s.locals a.loc s with | some (v,k')=>if v.over≠0∨k'≠k then 9 else 0 | none=>8
def jb(a:Act)(s:Scope):Int :=
 if a.kind=1∨a.kind=2∨a.kind=3 then
  match declared (if a.kind=3 then s.locals else s.vars) a.to s with
  | none=>8
  | some (v,k) =>
   if (v.over≠0)≠(a.kind=2) then 9
   else if a.kind=2∧asked a.index (1+v.over) s≠0 then asked a.index (1+v.over) s
   else asked a.value k s
 else if a.kind=4∨a.kind=5 then
  match channel a.to s with
  | none=>8
  | some k=>if a.kind=5 then C9 a k s else asked a.value k s
 else 3
def head(c:dG)(cz:Int):Int :=
 if isName c.name=false then 6 else if c.from_<0∨cz≤c.from_∨c.to<0∨cz≤c.to then 10 else if c.b4.length > 6 then 11 else 0
def jv(s:Scope):List Act→Nat→Bool→Int×Int
 | [],_,_=>(0,0)
 | a :: r,i,t=>if gh a&&t then (2+i,7) else if jb a s≠0 then (2+i,jb a s) else jv s r (i+1) (t||gh a)
def h4(c:dG)(cz:Int)(s:Scope):Int×Int :=
 if head c cz≠0 then (0,head c cz) else if c.guard.length > 0∧asked c.guard 1 s≠0 then (1,asked c.guard 1 s) else jv s c.b4 0 false
def comm:List Act→Int×Int
 | []=>(0,0)
 | a :: r=>if gh a then (a.kind,a.to) else comm r
def ways(c:dG)(l:List c5):Int:=if (comm c.b4).1=4 then (match nth l (comm c.b4).2 with | some x=>if x.SX then 2 else 1 | none=>1) else 1
def inner(p:dj)(s:Scope):Scope:={ s with locals:=p.vars,self:=p.over }
def whole(p:dj)(s:Scope):Int :=
 if isName p.name=false then 6 else if p.over<0∨(s.scalars.length:Int)<p.over then 8 else if p.cz<1∨12<p.cz then 10 else if p.cB.length > 12 then 11 else 0
def oj(s:Scope):List Var→Nat→Int×Int
 | [],_=>(0,0)
 | v :: r,i=>if v.over≠0 then (i,9) else if s.vars.any (fun x=>decide (x.name=v.name)) then (i,7) else oj s r (i+1)
def jR(p:dj)(s:Scope):Int×Int:=if (vars p.vars s.scalars 4).2≠0 then vars p.vars s.scalars 4 else oj s p.vars 0
def j2(own:Scope)(cz:Int)(all:List dG):List dG→Nat→Int×Int×Int
 | [],_=>(0,0,0)
 | c :: r,i=>if (h4 c cz own).2≠0 then (2+(i:Int),(h4 c cz own).1,(h4 c cz own).2)
  else if (all.take i).any (fun x=>decide (x.name=c.name)) then (2+(i:Int),0,7) else j2 own cz all r (i+1)
def gD(p:dj)(s:Scope):Int×Int×Int :=
 if whole p s≠0 then (0,0,whole p s) else if (jR p s).2≠0 then (1,(jR p s).1,(jR p s).2) else j2 (inner p s) p.cz p.cB p.cB 0
def eU(m:Model):Scope:=⟨m.scalars,m.vars,m.aJ,m.procs,[],0⟩
def gg(m:Model)(i:Int):Scope:=match nth m.procs i with | some p=>inner p (eU m) | none=>eU m
def elems(m:Model)(p:dj):Nat:=match nth m.scalars (p.over - 1) with | some s=>if s.size<1∨4<s.size then 0 else s.size.toNat | none=>0
theorem A0(m:Model)(p:dj):elems m p≤4:=by
 unfold elems;split
 ·split
  ·omega
  ·omega
 ·omega
def ih(i:Nat)(n:Nat):List c3:=(List.range n).map fun(k:Nat)=>(⟨(i:Int),(k:Int)+1⟩:c3)
def hI(i:Nat)(p:dj):List c3:=if p.over=0 then [(⟨(i:Int),0⟩:c3)] else []
def ic(m:Model):List dj→Nat→List c3
 | [],_=>[]
 | p :: r,i=>hI i p++ih i (elems m p)++ic m r (i+1)
def insts(m:Model):List c3:=ic m m.procs 0
theorem Tm(i n:Nat):ih i (n+1)=ih i n++[⟨(i:Int),(n:Int)+1⟩]:=by unfold ih;rw[List.range_succ,List.map_append];rfl
theorem Sb{m:Model}{k:Nat}(h:k<m.procs.length):ic m (m.procs.drop k) k=hI k m.procs[k]++ih k (elems m m.procs[k])++ic m (m.procs.drop (k+1)) (k+1):=by
 rw[List.drop_eq_getElem_cons h];rfl
theorem adO(i:Nat)(p:dj):(hI i p).length≤1:=by unfold hI;split<;>simp
theorem Sd(m:Model):∀(l:List dj) (i:Nat),(ic m l i).length≤5*l.length
 | [],_=>by simp[ic]
 | p :: r,i=>by
  have:=Sd m r (i+1)
  have:=A0 m p
  have:=adO i p
  simp only[ic,List.length_append,List.length_cons,ih,List.length_map,List.length_range];omega
theorem ta(m:Model):(insts m).length≤5*m.procs.length:=Sd m _ _
structure c3.of(m:Model)(x:c3):Prop where
 aZ:0≤x.proc
 ad:x.proc<m.procs.length
 elem:0≤x.elem∧x.elem≤4
theorem adM{m:Model}{i:Nat}(ad:i<m.procs.length){n:Nat}(aI:n≤4):∀x∈ih i n,x.of m:=fun x ar=>by
 unfold ih at ar;obtain⟨k,hk,rfl⟩:=List.mem_map.1 ar
 have:=List.mem_range.1 hk
 exact⟨by simp,by simpa using ad,by constructor<;>simp<;>omega⟩
theorem adP{m:Model}{i:Nat}(ad:i<m.procs.length){p:dj}:∀x∈hI i p,x.of m:=fun x ar=>by
 unfold hI at ar;split at ar
 ·rw[List.mem_singleton] at ar;subst ar;exact⟨by simp,by simpa using ad,by simp⟩
 ·cases ar
theorem Sf{m:Model}:∀(l:List dj) (i:Nat),i+l.length≤m.procs.length→∀x∈ic m l i,x.of m
 | [],_,_,x,ar=>by simp[ic] at ar
 | p :: r,i,h,x,ar=>by
  simp only[ic,List.mem_append] at ar;simp only[List.length_cons] at h;rcases ar with (ar | ar) | ar
  ·exact adP (by omega) x ar
  ·exact adM (by omega) (A0 m p) x ar
  ·exact Sf r (i+1) (by omega) x ar
theorem qK{m:Model}:∀x∈insts m,x.of m:=Sf _ _ (by simp)
def pX(m:Model)(x:c3):Nat:=match nth m.procs x.proc with | some p=>p.cB.length | none=>0
def refsOf(i:Int)(n:Nat):List Ref:=(List.range n).map fun(k:Nat)=>(⟨i,(k:Int)⟩:Ref)
theorem TT(i:Int)(n:Nat):refsOf i (n+1)=refsOf i n++[⟨i,(n:Int)⟩]:=by unfold refsOf;rw[List.range_succ,List.map_append];rfl
def nx(m:Model):List c3→Nat→List Ref
 | [],_=>[]
 | x :: r,i=>refsOf i (pX m x)++nx m r (i+1)
def refs(m:Model):List Ref:=nx m (insts m) 0
theorem aeU{m:Model}{l:List c3}{k:Nat}(h:k<l.length):nx m (l.drop k) k=refsOf k (pX m l[k])++nx m (l.drop (k+1)) (k+1):=by
 rw[List.drop_eq_getElem_cons h];rfl
def kN(m:Model)(s:Int×c3×List Ref)(x:c3):Int×c3×List Ref:=((if x≠s.2.1 then s.1+1 else s.1),x,s.2.2++refsOf (if x≠s.2.1 then s.1+1 else s.1) (pX m x))
structure p9 where
 dp:Int
 part:Int
 item:Int
 sub:Int
deriving DecidableEq
def rn:p9:=⟨0,0,0,0⟩
abbrev CT(m:Model):List ByteArray:=m.scalars.map (·.name)
abbrev xi(m:Model)(i:Nat):List ByteArray:=(m.vars.take i).map (·.name)
abbrev xh(m:Model)(i:Nat):List ByteArray:=(m.aJ.take i).map (·.name)
abbrev vb(m:Model)(i:Nat):List ByteArray:=(m.procs.take i).map (·.name)
abbrev Kc(m:Model)(i:Nat):List ByteArray:=(m.props.take i).map (·.name)
abbrev pV(m:Model)(i:Nat):List ByteArray:=CT m++xi m i
abbrev lE(m:Model)(i:Nat):List ByteArray:=pV m m.vars.length++xh m i
abbrev hG(m:Model)(i:Nat):List ByteArray:=lE m m.aJ.length++vb m i
abbrev pU(m:Model)(i:Nat):List ByteArray:=hG m m.procs.length++Kc m i
def mf(m:Model):Nat→Int:=err 12 (nameAt (·.name) m.vars) (nA m.vars m.scalars)
def l1(m:Model):Nat→Int:=err 4 (nameAt (·.name) m.aJ) (nc m.aJ m.scalars)
def h6(m:Model)(i:Nat):Int:=if mf m i≠0 then mf m i else if nameAt (·.name) m.vars i∈pV m i then 7 else 0
def jf(m:Model)(i:Nat):Int:=if l1 m i≠0 then l1 m i else if nameAt (·.name) m.aJ i∈lE m i then 7 else 0
def oX(m:Model)(p:dj)(k:Nat):Int:=if nameAt (·.name) p.vars k∈hG m m.procs.length then 7 else 0
def hc(m:Model)(i:Nat):Int×Int :=
 match m.procs[i]? with
 | none=>(0,0)
 | some p=>if 6≤i then (11,0)
  else if (gD p (gg m i)).2.2≠0 then ((gD p (gg m i)).2.2,16*(gD p (gg m i)).1+(gD p (gg m i)).2.1)
  else if p.name∈hG m i then (7,0)
  else if (first p.vars.length (oX m p)).2≠0 then (7,16+(first p.vars.length (oX m p)).1)
  else (0,0)
def jJ(m:Model)(p:dj):Int:=if p.over=0 then 1 else size p.over m.scalars
def hq(l:List Int):Int:=l.foldl (· + ·) 0
def oW(c:c5):Int:=1+min (max c.cap 0) 4
def pieces(m:Model):Int×Int×Int :=
 (hq (m.procs.map (jJ m)),hq (m.procs.map fun p=>jJ m p*p.cB.length),
  hq (m.vars.map (fun v=>cells v m.scalars))+hq (m.aJ.map oW)+hq (m.procs.map fun p=>jJ m p*(1+p.vars.length)))
def ll(m:Model)(i:Nat):Int :=
 match m.props[i]? with
 | none=>0
 | some p=>if 8≤i then 11 else if isName p.name=false then 6 else if p.name∈pU m i then 7
  else if (kind p.expr (eU m)).2≠0 then (kind p.expr (eU m)).2 else if (kind p.expr (eU m)).1≠1 then 9 else 0
def data(m:Model):p9 :=
 if (scalars m.scalars).2≠0 then ⟨(scalars m.scalars).2,1,(scalars m.scalars).1,0⟩
 else if (first m.vars.length (h6 m)).2≠0 then ⟨(first m.vars.length (h6 m)).2,2,(first m.vars.length (h6 m)).1,0⟩
 else if (first m.aJ.length (jf m)).2≠0 then ⟨(first m.aJ.length (jf m)).2,3,(first m.aJ.length (jf m)).1,0⟩
 else rn
def lF(m:Model):p9 :=
 if (first m.procs.length fun i=>(hc m i).1).2≠0 then ⟨(first m.procs.length fun i=>(hc m i).1).2,4,(first m.procs.length fun i=>(hc m i).1).1,(hc m (first m.procs.length fun i=>(hc m i).1).1.toNat).2⟩
 else if 12<(pieces m).1∨64<(pieces m).2.2 then ⟨11,4,m.procs.length,0⟩ else rn
def ou(m:Model):p9:=if (first m.props.length (ll m)).2≠0 then ⟨(first m.props.length (ll m)).2,5,(first m.props.length (ll m)).1,0⟩ else rn
def check(m:Model):p9:=if (data m).dp≠0 then data m else if (lF m).dp≠0 then lF m else ou m
theorem zs{α:Type}{f:α→ByteArray}{l:List α}{i:Nat}(h:i<l.length):nameAt f l i=f l[i]:=by
 unfold nameAt;rw[List.getElem?_eq_getElem h];rfl
theorem acY{p:Nat→Prop}(h:∃j,p j):∃i,p i∧∀k,p k→i≤k:=by
 obtain⟨j,aU⟩:=h
 induction j using Nat.strongRecOn with
 | _ j fB =>
  by_cases ar:∃k,k<j∧p k
  ·obtain⟨k,hk,aO⟩:=ar;exact fB k hk aO
  ·exact⟨j,aU,fun k aO=>Nat.le_of_not_lt fun cq=>ar ⟨k,cq,aO⟩⟩
theorem sD{n:Nat}{e:Nat→Int}(h:(first n e).2=0):∀j,j<n→e j=0:=by
 intro j aU;apply Classical.byContradiction;intro aI;obtain⟨i,ad,h1⟩:=acY (p:=fun j=>j<n∧e j≠0) ⟨j,aU,aI⟩;rw[hR ad.1 (fun k hk=>by
  apply Classical.byContradiction;intro dg;exact absurd (h1 k ⟨by omega,dg⟩) (by omega)) ad.2] at h
 exact ad.2 h
theorem P5{n:Nat}{e:Nat→Int}(h:(first n e).2≠0):∃i,i<n∧(first n e).1=(i:Int)∧(first n e).2=e i:=by
 unfold first at h ⊢
 split at h
 ·rename_i i ad;rw[List.find?_range_eq_some] at ad;exact⟨i,by simpa using ad.2.1,rfl,rfl⟩
 ·exact absurd rfl h
theorem PS{α:Type}{f:α→ByteArray}{l:List α}{e0:Int}{mo mo':Nat→Int}{k i:Nat}(ad:i<k)(hm:mo i=mo' i):err e0 (nameAt f (l.take k)) mo i=err e0 (nameAt f l) mo' i:=by
 have aI:∀j,j<k→nameAt f (l.take k) j=nameAt f l j:=fun j aU=>by unfold nameAt;rw[List.getElem?_take_of_lt aU]
 unfold err;rw[aI i ad,hm];have he:(∃j,j<i∧nameAt f (l.take k) j=nameAt f l i)↔(∃j,j<i∧nameAt f l j=nameAt f l i) :=
  ⟨fun⟨j,h1,U⟩=>⟨j,h1,by rw[←aI j (by omega)];exact U⟩,fun⟨j,h1,U⟩=>⟨j,h1,by rw[aI j (by omega)];exact U⟩⟩
 by_cases ar:∃j,j<i∧nameAt f l j=nameAt f l i
 ·rw[if_pos (he.2 ar),if_pos ar]
 ·rw[if_neg (fun h=>ar (he.1 h)),if_neg ar]
theorem agw{m:Model}{i:Nat}(ad:i<m.vars.length)(bU:∀j,j<i→mf m j=0):(vars (m.vars.take (i+1)) m.scalars 12).2=mf m i:=by
 unfold vars;have aP:(m.vars.take (i+1)).length=i+1:=by simp;omega
 rw[aP,show(max 12 0:Int)=12 from rfl,P4 (e':=mf m) (fun j aU=>(PS (mo':=nA m.vars m.scalars) aU (by unfold nA;rw[List.getElem?_take_of_lt aU]):_=mf m j))];by_cases aj:mf m i=0
 ·rw[ng fun j aU=>by
   by_cases gv:j=i
   ·subst gv;exact aj
   ·exact bU j (by omega),aj]
 ·rw[hR (by omega) bU aj]
theorem Xr{m:Model}{i:Nat}(ad:i<m.aJ.length)(bU:∀j,j<i→l1 m j=0):(aJ (m.aJ.take (i+1)) m.scalars).2=l1 m i:=by
 unfold aJ;have aP:(m.aJ.take (i+1)).length=i+1:=by simp;omega
 rw[aP,P4 (e':=l1 m) (fun j aU=>(PS (mo':=nc m.aJ m.scalars) aU (by unfold nc;rw[List.getElem?_take_of_lt aU]):_=l1 m j))];by_cases aj:l1 m i=0
 ·rw[ng fun j aU=>by
   by_cases gv:j=i
   ·subst gv;exact aj
   ·exact bU j (by omega),aj]
 ·rw[hR (by omega) bU aj]
theorem agv(m:Model):vars m.vars m.scalars 12=first m.vars.length (mf m):=rfl
theorem Xp(m:Model):aJ m.aJ m.scalars=first m.aJ.length (l1 m):=rfl
theorem GF{m:Model}{i:Nat}(h:h6 m i=0):mf m i=0:=by
 apply Classical.byContradiction;intro aI;unfold h6 at h;rw[if_pos aI] at h;exact aI h
theorem Ev{m:Model}{i:Nat}(h:jf m i=0):l1 m i=0:=by
 apply Classical.byContradiction;intro aI;unfold jf at h;rw[if_pos aI] at h;exact aI h
theorem PT{m:Model}{i:Nat}(h:h6 m i=0):i<12:=by
 have h:=GF h;unfold mf err at h;split at h
 ·cases h
 ·omega
theorem X2{m:Model}{i:Nat}(h:jf m i=0):i<4:=by
 have h:=Ev h;unfold l1 err at h;split at h
 ·cases h
 ·omega
theorem EL{m:Model}{i:Nat}(ad:i<m.procs.length)(h:(hc m i).1=0):i<6:=by
 unfold hc at h;rw[List.getElem?_eq_getElem ad] at h;simp only at h;split at h
 ·cases h
 ·omega
theorem Yd{m:Model}{i:Nat}(ad:i<m.props.length)(h:ll m i=0):i<8:=by
 unfold ll at h;rw[List.getElem?_eq_getElem ad] at h;simp only at h;split at h
 ·cases h
 ·omega
theorem Um{m:Model}(h:(scalars m.scalars).2=0):m.scalars.length≤2:=by
 unfold scalars at h
 have:=sD h
 apply Classical.byContradiction;intro aI;have U:=this 2 (by omega);unfold err at U;rw[if_pos (by omega)] at U;cases U
theorem size_le(k:Int)(s:List Scalar):0≤size k s∧size k s≤4:=by
 unfold size;split
 ·split<;>omega
 ·omega
theorem sm(v:Var)(s:List Scalar):0≤cells v s∧cells v s≤4:=by
 have:=size_le v.over s
 unfold cells;split<;>omega
theorem CX(m:Model)(p:dj):0≤jJ m p∧jJ m p≤4:=by
 have:=size_le p.over m.scalars
 unfold jJ;split<;>omega
theorem Hy(c:c5):1≤oW c∧oW c≤5:=by unfold oW;omega
theorem af1(l:List Int)(x:Int):hq (l++[x])=hq l+x:=by unfold hq;simp
theorem Dq{α:Type}(f:α→Int)(l:List α){k:Nat}(h:k<l.length):hq ((l.take (k+1)).map f)=hq ((l.take k).map f)+f l[k]:=by
 rw[List.take_succ_eq_append_getElem h,List.map_append,List.map_cons,List.map_nil,af1]
theorem Dp{α:Type}(f:α→Int)(B:Int)(hT:0≤B):∀(l:List α),(∀x∈l,0≤f x∧f x≤B)→0≤hq (l.map f)∧hq (l.map f)≤B*l.length:=by
 have key:∀(l:List α) (a:Int),(∀x∈l,0≤f x∧f x≤B)→a≤(l.map f).foldl (· + ·) a∧(l.map f).foldl (· + ·) a≤a+B*l.length:=by
  intro l
  induction l with
  | nil=>intro a _;simp
  | cons x r fB =>
   intro a h;have ar:=h x (by simp);obtain⟨h1,U⟩:=fB (a+f x) fun y cx=>h y (by simp[cx]);simp only[List.map_cons,List.foldl_cons,List.length_cons];rw[Int.natCast_succ,Int.mul_add];omega
 intro l h;obtain⟨h1,U⟩:=key l 0 h;unfold hq;omega
end o
namespace o
theorem Po{m:Model}(h:(scalars m.scalars).2≠0):data m=⟨(scalars m.scalars).2,1,(scalars m.scalars).1,0⟩:=by unfold data;rw[if_pos h]
theorem EF{m:Model}(ay:(scalars m.scalars).2=0){i:Nat}(ad:i<m.vars.length)(bU:∀j,j<i→h6 m j=0)(h:h6 m i≠0):data m=⟨h6 m i,2,i,0⟩:=by
 unfold data;rw[if_neg (by simpa using ay),hR ad bU h,if_pos h]
theorem ED{m:Model}(ay:(scalars m.scalars).2=0)(aS:∀j,j<m.vars.length→h6 m j=0){i:Nat}(ad:i<m.aJ.length)(bU:∀j,j<i→jf m j=0)(h:jf m i≠0):data m=⟨jf m i,3,i,0⟩:=by
 unfold data;rw[if_neg (by simpa using ay),ng aS,if_neg (by simp),hR ad bU h,if_pos h]
theorem Pm{m:Model}(ay:(scalars m.scalars).2=0)(aS:∀j,j<m.vars.length→h6 m j=0)(ax:∀j,j<m.aJ.length→jf m j=0):data m=rn:=by
 unfold data;rw[if_neg (by simpa using ay),ng aS,if_neg (by simp),ng ax,if_neg (by simp)]
theorem Pn{m:Model}(h:(data m).dp=0):(scalars m.scalars).2=0∧(∀j,j<m.vars.length→h6 m j=0)∧(∀j,j<m.aJ.length→jf m j=0):=by
 unfold data at h;by_cases h1:(scalars m.scalars).2=0
 ·rw[if_neg (by simpa using h1)] at h;by_cases U:(first m.vars.length (h6 m)).2=0
  ·rw[if_neg (by simpa using U)] at h;by_cases ag:(first m.aJ.length (jf m)).2=0
   ·exact⟨h1,sD U,sD ag⟩
   ·rw[if_pos ag] at h;exact absurd h ag
  ·rw[if_pos U] at h;exact absurd h U
 ·rw[if_pos h1] at h;exact absurd h h1
theorem EE{m:Model}(h:(data m).dp=0):m.scalars.length≤2∧m.vars.length≤12∧m.aJ.length≤4:=by
 obtain⟨h1,U,ag⟩:=Pn h;refine⟨Um h1,?_,?_⟩
 ·apply Classical.byContradiction;intro aI
  have:=PT (U 12 (by omega))
  omega
 ·apply Classical.byContradiction;intro aI
  have:=X2 (ag 4 (by omega))
  omega
theorem CZ{m:Model}{i:Nat}(ad:i<m.procs.length)(bU:∀j,j<i→(hc m j).1=0)(h:(hc m i).1≠0):lF m=⟨(hc m i).1,4,i,(hc m i).2⟩:=by
 unfold lF;rw[hR (e:=fun i=>(hc m i).1) ad bU h];simp only;rw[if_pos h];simp
theorem Kx{m:Model}(bU:∀j,j<m.procs.length→(hc m j).1=0):lF m=if 12<(pieces m).1∨64<(pieces m).2.2 then ⟨11,4,m.procs.length,0⟩ else rn:=by
 unfold lF;rw[ng (e:=fun i=>(hc m i).1) bU,if_neg (by simp)]
theorem Ky{m:Model}(h:(lF m).dp=0):(∀j,j<m.procs.length→(hc m j).1=0)∧(pieces m).1≤12∧(pieces m).2.2≤64:=by
 by_cases h1:(first m.procs.length fun i=>(hc m i).1).2=0
 ·have bU:=sD h1;rw[Kx bU] at h;refine⟨bU,?_⟩;by_cases U:12<(pieces m).1∨64<(pieces m).2.2
  ·rw[if_pos U] at h;cases h
  ·omega
 ·unfold lF at h;rw[if_pos h1] at h;exact absurd h h1
theorem Tv{m:Model}{i:Nat}(ad:i<m.props.length)(bU:∀j,j<i→ll m j=0)(h:ll m i≠0):ou m=⟨ll m i,5,i,0⟩:=by
 unfold ou;rw[hR ad bU h,if_pos h]
theorem Kz{m:Model}(bU:∀j,j<m.props.length→ll m j=0):ou m=rn:=by
 unfold ou;rw[ng bU,if_neg (by simp)]
theorem ad9{m:Model}(h:(ou m).dp=0):∀j,j<m.props.length→ll m j=0:=by
 by_cases h1:(first m.props.length (ll m)).2=0
 ·exact sD h1
 ·unfold ou at h;rw[if_pos h1] at h;exact absurd h h1
theorem zM{α:Type}(f:α→ByteArray)(l:List α){k:Nat}(h:k<l.length):(l.take (k+1)).map f=(l.take k).map f++[f l[k]]:=by
 rw[List.take_succ_eq_append_getElem h,List.map_append];rfl
end o
namespace o
theorem H0{m:Model}{i:Nat}(ad:i<m.procs.length):hc m i=if 6≤i then (11,0)
  else if (gD m.procs[i] (gg m i)).2.2≠0 then ((gD m.procs[i] (gg m i)).2.2,16*(gD m.procs[i] (gg m i)).1+(gD m.procs[i] (gg m i)).2.1)
  else if m.procs[i].name∈hG m i then (7,0)
  else if (first m.procs[i].vars.length (oX m m.procs[i])).2≠0 then (7,16+(first m.procs[i].vars.length (oX m m.procs[i])).1)
  else (0,0):=by
 unfold hc;rw[List.getElem?_eq_getElem ad]
theorem PO{m:Model}{i:Nat}(ad:i<m.props.length):ll m i=if 8≤i then 11 else if isName m.props[i].name=false then 6 else if m.props[i].name∈pU m i then 7
  else if (kind m.props[i].expr (eU m)).2≠0 then (kind m.props[i].expr (eU m)).2 else if (kind m.props[i].expr (eU m)).1≠1 then 9 else 0:=by
 unfold ll;rw[List.getElem?_eq_getElem ad]
theorem YK(n:Nat)(e:Nat→Int):0≤(first n e).1∧(first n e).1≤n:=by
 unfold first
 split
 ·rename_i i ad;rw[List.find?_range_eq_some] at ad
  have:=ad.2.1
  simp at this;constructor<;>simp<;>omega
 ·simp
theorem SV(s:Scope):∀(l:List Var) (i:Nat),0≤(oj s l i).1∧(oj s l i).1≤i+l.length
 | [],i=>by first | (simp[oj];done) | (simp[oj];omega)
 | v :: r,i=>by
  have:=SV s r (i+1)
  unfold oj;split
  ·simp;omega
  ·split
   ·simp;omega
   ·simp only[List.length_cons];omega
theorem ad1(p:dj)(s:Scope):0≤(jR p s).1∧(jR p s).1≤p.vars.length:=by
 unfold jR;split
 ·exact YK _ _
 ·have:=SV s p.vars 0;omega
theorem OF(s:Scope):∀(l:List Act) (i:Nat) (t:Bool),0≤(jv s l i t).1∧(jv s l i t).1≤2+i+l.length
 | [],i,t=>by first | (simp[jv];done) | (simp[jv];omega)
 | a :: r,i,t=>by
  have:=OF s r (i+1) (t||gh a)
  unfold jv;split
  ·simp;omega
  ·split
   ·simp;omega
   ·simp only[List.length_cons];omega
theorem Xz(c:dG)(cz:Int)(s:Scope):0≤(h4 c cz s).1∧(h4 c cz s).1≤2+c.b4.length:=by
 unfold h4;split
 ·simp;omega
 ·split
  ·simp;omega
  ·have:=OF s c.b4 0 false;omega
theorem Pb(own:Scope)(cz:Int)(all:List dG)(B:Nat):∀(l:List dG) (i:Nat),(∀c∈l,c.b4.length≤B)→0≤(j2 own cz all l i).1∧(j2 own cz all l i).1≤2+i+l.length∧0≤(j2 own cz all l i).2.1∧(j2 own cz all l i).2.1≤2+B
 | [],i,_=>by first | (simp[j2];done) | (simp[j2];omega)
 | c :: r,i,h=>by
  have h1:=Pb own cz all B r (i+1) fun x ar=>h x (by simp[ar]);have U:=Xz c cz own;have ag:=h c (by simp);unfold j2;split
  ·simp only[List.length_cons];omega
  ·split
   ·simp only[List.length_cons];omega
   ·simp only[List.length_cons];omega
theorem Tt(p:dj)(s:Scope)(B:Nat)(h:∀c∈p.cB,c.b4.length≤B):0≤(gD p s).1∧(gD p s).1≤2+p.cB.length∧0≤(gD p s).2.1∧(gD p s).2.1≤2+B+p.vars.length:=by
 unfold gD;split
 ·simp;omega
 ·split
  ·have:=ad1 p s
   simp only;omega
  ·have:=Pb (inner p s) p.cz p.cB B p.cB 0 h
   omega
theorem Kw{p:dj}{s:Scope}(h:(gD p s).2.2=0):p.vars.length≤4∧p.cB.length≤12∧whole p s=0∧(jR p s).2=0∧(j2 (inner p s) p.cz p.cB p.cB 0).2.2=0:=by
 unfold gD at h;by_cases h1:whole p s=0
 ·rw[if_neg (by simpa using h1)] at h;by_cases U:(jR p s).2=0
  ·rw[if_neg (by simpa using U)] at h;refine⟨?_,?_,h1,U,h⟩
   ·have ag:(vars p.vars s.scalars 4).2=0:=by
     apply Classical.byContradiction;intro aI;unfold jR at U;rw[if_pos aI] at U;exact aI U
    apply Classical.byContradiction;intro aI;have aK:=sD ag 4 (by omega);unfold err at aK;rw[if_pos (by decide)] at aK;cases aK
   ·apply Classical.byContradiction;intro aI;unfold whole at h1;split at h1
    ·cases h1
    ·split at h1
     ·cases h1
     ·split at h1
      ·cases h1
      ·rw[if_pos (by omega)] at h1;cases h1
  ·rw[if_pos U] at h;exact absurd h U
 ·rw[if_pos h1] at h;exact absurd h h1
theorem A3{m:Model}{i:Nat}(ad:i<m.procs.length)(h:(hc m i).1=0):i<6∧(gD m.procs[i] (gg m i)).2.2=0∧¬m.procs[i].name∈hG m i∧(first m.procs[i].vars.length (oX m m.procs[i])).2=0:=by
 rw[H0 ad] at h;split at h
 ·cases h
 ·split at h
  ·rename_i h1 U;exact absurd h U
  ·split at h
   ·cases h
   ·split at h
    ·cases h
    ·rename_i h1 U ag aK;exact⟨by omega,by simpa using U,ag,by simpa using aK⟩
end o
end
section
namespace o
open Go
structure dm where
 aZ:Int
 ad:Int
 kind:Int
structure Cell where
 sort:Int
 tL:Int
 place:Int
 aZ:Int
 ad:Int
 kind:Int
structure tU where
 vars:List Int
 aJ:List Int
 insts:List Int
 cells:Int
 aZ:List Int
 ad:List Int
def kindOf(k:Int):Int:=if k=0 then 0 else k+1
def eM(fg aZ ad:Int)(s:List Scalar):dm:=if fg=0 then ⟨aZ,ad,0⟩ else ⟨0,size fg s,fg+1⟩
theorem AA(v:Var)(s:List Scalar):eM v.scalar v.aZ v.ad s=⟨(bounds v s).1,(bounds v s).2,kindOf v.scalar⟩:=by
 unfold eM bounds kindOf;by_cases h:v.scalar=0
 ·rw[if_pos h,if_pos h,if_pos h]
 ·rw[if_neg h,if_neg h,if_neg h]
def xB(s:List Scalar)(v:Var):List dm:=List.replicate (cells v s).toNat (eM v.scalar v.aZ v.ad s)
def jy(s:List Scalar)(c:c5):dm:=eM c.scalar (min c.aZ 0) (max c.ad 0) s
def lh(s:List Scalar)(c:c5):List dm:=⟨0,c.cap,0⟩ :: List.replicate c.cap.toNat (jy s c)
def rU(s:List Scalar)(p:dj):List dm:=⟨0,p.cz - 1,0⟩ :: p.vars.map fun v=>eM v.scalar v.aZ v.ad s
def ka(m:Model)(x:c3):List dm:=match nth m.procs x.proc with | some p=>rU m.scalars p | none=>[]
def eT(sort tL:Int):List dm→Nat→List Cell
 | [],_=>[]
 | b :: r,k=>⟨sort,tL,k,b.aZ,b.ad,b.kind⟩ :: eT sort tL r (k+1)
def cellsOf(sort:Int):List (List dm)→Nat→List Cell
 | [],_=>[]
 | l :: r,i=>eT sort i l 0++cellsOf sort r (i+1)
def total(ls:List (List dm)):Nat:=(ls.map List.length).sum
def gF(n:Nat):List (List dm)→List Int
 | []=>[]
 | l :: r=>(n:Int) :: gF (n+l.length) r
def cG(m:Model):List (List dm):=m.vars.map (xB m.scalars)
def dc(m:Model):List (List dm):=m.aJ.map (lh m.scalars)
def eP(m:Model):List (List dm):=(insts m).map (ka m)
def b1(m:Model):List Cell:=cellsOf 1 (cG m) 0++cellsOf 2 (dc m) 0++cellsOf 3 (eP m) 0
def y6(V C eB:List Int)(cs:List Cell):tU:=⟨V,C,eB,cs.length,cs.map (·.aZ),cs.map (·.ad)⟩
def layout(m:Model):tU:=y6 (gF 0 (cG m)) (gF (total (cG m)) (dc m)) (gF (total (cG m)+total (dc m)) (eP m)) (b1 m)
def Kj:tU:=⟨[],[],[],0,[],[]⟩
def lay(m:Model):tU:=if (check m).dp=0 then layout m else Kj
theorem rN(s w:Int):∀(l:List dm) (k:Nat),(eT s w l k).length=l.length
 | [],_=>rfl
 | _ :: r,k=>by simp[eT,rN s w r]
theorem J0(s w:Int)(b:dm):∀(l:List dm) (k:Nat),eT s w (l++[b]) k=eT s w l k++[⟨s,w,(k+l.length:Nat),b.aZ,b.ad,b.kind⟩]
 | [],k=>by simp[eT]
 | x :: r,k=>by
  simp only[List.cons_append,eT,J0 s w b r,List.length_cons];rw[show k+1+r.length=k+(r.length+1) from by omega]
theorem acq{s w:Int}{l:List dm}{k:Nat}(h:k<l.length):eT s w (l.take (k+1)) 0=eT s w (l.take k) 0++[⟨s,w,k,l[k].aZ,l[k].ad,l[k].kind⟩]:=by
 rw[List.take_succ_eq_append_getElem h,J0];simp[List.length_take,Nat.min_eq_left (Nat.le_of_lt h)]
theorem jx(s:Int):∀(ls:List (List dm)) (i:Nat),(cellsOf s ls i).length=total ls
 | [],_=>rfl
 | l :: r,i=>by simp[cellsOf,rN,jx s r,total]
theorem vY(s:Int)(x:List dm):∀(ls:List (List dm)) (i:Nat),cellsOf s (ls++[x]) i=cellsOf s ls i++eT s (i+ls.length:Nat) x 0
 | [],i=>by simp[cellsOf]
 | l :: r,i=>by
  simp only[List.cons_append,cellsOf,vY s x r,List.length_cons,List.append_assoc];rw[show i+1+r.length=i+(r.length+1) from by omega]
theorem agb(ls:List (List dm))(x:List dm):total (ls++[x])=total ls+x.length:=by simp[total]
theorem Gt(x:List dm):∀(ls:List (List dm)) (n:Nat),gF n (ls++[x])=gF n ls++[((n+total ls:Nat):Int)]
 | [],n=>by simp[gF,total]
 | l :: r,n=>by
  simp only[List.cons_append,gF,Gt x r,total,List.map_cons,List.sum_cons];rw[show n+l.length+(r.map List.length).sum=n+(l.length+(r.map List.length).sum) from by omega]
theorem r1(n:Nat):∀(ls:List (List dm)),(gF n ls).length=ls.length:=by
 intro ls
 induction ls generalizing n with
 | nil=>rfl
 | cons l r fB=>simp[gF,fB]
theorem B9(m:Model):(b1 m).length=total (cG m)+total (dc m)+total (eP m):=by simp[b1,jx,Nat.add_assoc]
def hy(s:Int):List Cell→Nat→List Int
 | [],_=>[]
 | x :: r,i=>(if x.place=0∧x.sort=s then [(i:Int)] else [])++hy s r (i+1)
theorem A6(s:Int):∀(a b:List Cell) (i:Nat),hy s (a++b) i=hy s a i++hy s b (i+a.length)
 | [],b,i=>by simp[hy]
 | x :: r,b,i=>by
  simp only[List.cons_append,hy,A6 s r b,List.append_assoc,List.length_cons];rw[show i+1+r.length=i+(r.length+1) from by omega]
theorem P7(s gX w:Int):∀(l:List dm) (k i:Nat),0<k→hy s (eT gX w l k) i=[]
 | [],_,_,_=>rfl
 | b :: r,k,i,h=>by
  simp only[eT,hy];rw[if_neg (by simp;omega),P7 s gX w r (k+1) (i+1) (by omega)];rfl
theorem ES(s:Int):∀(ls:List (List dm)) (i n:Nat),(∀l∈ls,l≠[])→hy s (cellsOf s ls i) n=gF n ls
 | [],_,_,_=>rfl
 | [] :: r,i,n,h=>absurd rfl (h [] (by simp))
 | (b :: l) :: r,i,n,h=>by
  simp only[cellsOf,eT,List.cons_append,hy,A6];rw[if_pos (by simp),P7 s s i l 1 (n+1) (by omega),ES s r (i+1) _ (fun l aP=>h l (by simp[aP]))];simp only[List.nil_append,gF,rN,List.singleton_append,List.length_cons];rw[show n+1+l.length=n+(l.length+1) from by omega]
theorem wh(s gX:Int)(ay:s≠gX):∀(ls:List (List dm)) (i n:Nat),hy s (cellsOf gX ls i) n=[]
 | [],_,_=>rfl
 | l :: r,i,n=>by
  have key:∀(l:List dm) (k n:Nat),hy s (eT gX i l k) n=[]:=by
   intro l
   induction l with
   | nil=>intro k n;rfl
   | cons b r fB =>
    intro k n;simp only[eT,hy];rw[if_neg (by simp;exact fun _=>Ne.symm ay),fB];rfl
  simp only[cellsOf,A6,key,wh s gX ay r,List.append_nil]
end o
end