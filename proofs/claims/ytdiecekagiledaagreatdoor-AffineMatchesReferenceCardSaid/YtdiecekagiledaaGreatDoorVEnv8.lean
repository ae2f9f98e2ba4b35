/- Chains of tactics that the walks use again and again, each behind the name. -/
import Derived.Deep.DeepHandedRow
import Derived.Lay
import Derived.Lib.LaidU8
import Derived.Lib.SmallJoins
import Derived.SevenTiedAt
import Derived.Stop.LaidErr
import Derived.Test.YtdiecekagiledaaGreatDoorCards
import Derived.Test.YtdiecekagiledaaGreatDoorTie
import Derived.WideKeyArr2
import Derived.Test.YtdiecekagiledaaGreatDoorVEIs
import Derived.Test.YtdiecekagiledaaGreatDoorVQTool
set_option linter.unusedSimpArgs false
set_option linter.unusedVariables false
set_option maxRecDepth 100000
set_option maxHeartbeats 1000000
namespace Go.Proofs.YtdiecekagiledaaGreatDoor
open Go Go.RowKit Go.Lib Go.Proofs.Tryz
theorem yJ{P:Prop}(h:P:=by repeat(first|(with_reducible exact hB)|(with_reducible exact Au _ _)|(with_reducible refine Below.drew ?_)|(with_reducible refine ze ?_ _)|(with_reducible refine Below.alloc ?_ Ek _)|(with_reducible refine Below.setCell ?_ Ek _))):P:=h
theorem C2{P:Prop}(h:P:=by repeat(first|(with_reducible exact jg Ek)|(with_reducible refine AX ?_)|(with_reducible refine Ck ?_ _)|(with_reducible refine AN ?_ _)|(with_reducible apply BO)|(with_reducible apply BD)|(with_reducible apply BE)|(with_reducible apply Bz)|(with_reducible apply BP)|(with_reducible refine Ba ?_ _ Ek))):P:=h
theorem kcZ{P:Prop}(h:P:=by repeat(first|(with_reducible exact rs)|(with_reducible exact jg Ek)|(with_reducible refine AX ?_)|(with_reducible refine Ck ?_ _)|(with_reducible refine AN ?_ _)|(with_reducible apply BO)|(with_reducible apply BD)|(with_reducible apply BE)|(with_reducible apply Bz)|(with_reducible apply BP)|(with_reducible refine Ba ?_ _ Ek))):P:=h
theorem ybL{P:Prop}(h:P:=by repeat(first|(with_reducible exact rp)|(with_reducible exact jg Ek)|(with_reducible refine AX ?_)|(with_reducible refine Ck ?_ _)|(with_reducible refine AN ?_ _)|(with_reducible apply BO)|(with_reducible apply BD)|(with_reducible apply BE)|(with_reducible apply Bz)|(with_reducible apply BP)|(with_reducible refine Ba ?_ _ Ek))):P:=h
theorem kaK{P:Prop}(h:P:=by repeat(first|(with_reducible exact ra)|(with_reducible exact jg Ek)|(with_reducible refine AX ?_)|(with_reducible refine Ck ?_ _)|(with_reducible refine AN ?_ _)|(with_reducible apply BO)|(with_reducible apply BD)|(with_reducible apply BE)|(with_reducible apply Bz)|(with_reducible apply BP)|(with_reducible refine Ba ?_ _ Ek))):P:=h
theorem zaP{P:Prop}(h:P:=by repeat(first|(with_reducible exact ro)|(with_reducible exact jg Ek)|(with_reducible refine AX ?_)|(with_reducible refine Ck ?_ _)|(with_reducible refine AN ?_ _)|(with_reducible apply BO)|(with_reducible apply BD)|(with_reducible apply BE)|(with_reducible apply Bz)|(with_reducible apply BP)|(with_reducible refine Ba ?_ _ Ek))):P:=h
theorem zcw{P:Prop}(h:P:=by repeat(first|(with_reducible exact rb)|(with_reducible exact jg Ek)|(with_reducible refine AX ?_)|(with_reducible refine Ck ?_ _)|(with_reducible refine AN ?_ _)|(with_reducible apply BO)|(with_reducible apply BD)|(with_reducible apply BE)|(with_reducible apply Bz)|(with_reducible apply BP)|(with_reducible refine Ba ?_ _ Ek))):P:=h
theorem kcK{P:Prop}(h:P:=by repeat(first|(with_reducible exact rg)|(with_reducible exact jg Ek)|(with_reducible refine AX ?_)|(with_reducible refine Ck ?_ _)|(with_reducible refine AN ?_ _)|(with_reducible apply BO)|(with_reducible apply BD)|(with_reducible apply BE)|(with_reducible apply Bz)|(with_reducible apply BP)|(with_reducible refine Ba ?_ _ Ek))):P:=h
theorem ycZ{P:Prop}(h:P:=by repeat(first|(with_reducible exact rx)|(with_reducible exact jg Ek)|(with_reducible refine AX ?_)|(with_reducible refine Ck ?_ _)|(with_reducible refine AN ?_ _)|(with_reducible apply BO)|(with_reducible apply BD)|(with_reducible apply BE)|(with_reducible apply Bz)|(with_reducible apply BP)|(with_reducible refine Ba ?_ _ Ek))):P:=h
theorem C4{P:Prop}(h:P:=by repeat(first|(with_reducible exact jg Ek)|(with_reducible refine AX ?_)|(with_reducible refine AN ?_ _))):P:=h
theorem ycK{P:Prop}(h:P:=by repeat(first|(with_reducible exact hB)|(with_reducible refine Below.drew ?_)|(with_reducible refine Below.alloc ?_ Ek _)|(with_reducible refine Below.setCell ?_ Ek _))):P:=h
theorem zc0{P:Prop}(h:P:=by repeat(first|(with_reducible exact rq)|(with_reducible exact jg Ek)|(with_reducible refine AX ?_)|(with_reducible refine AN ?_ _)|(with_reducible apply BO)|(with_reducible apply BD)|(with_reducible apply BE)|(with_reducible apply Bz)|(with_reducible apply BP)|(with_reducible refine Ba ?_ _ Ek))):P:=h
theorem vcZ{P:Prop}(h:P:=by repeat(first|(with_reducible exact rp)|(with_reducible exact jg Ek)|(with_reducible refine AX ?_)|(with_reducible refine AN ?_ _)|(with_reducible apply BO)|(with_reducible apply BD)|(with_reducible apply BE)|(with_reducible apply Bz)|(with_reducible apply BP)|(with_reducible refine Ba ?_ _ Ek))):P:=h
open Go.Shelf
def I(a:Iv):Value:=.agg #[.string (S a.lo.num),.string (S (a.lo.den:Int)),.string (S a.hi.num),.string (S (a.hi.den:Int))]
structure EnvE(a:Addr)(w:World):Prop where
 env:Env w
 fails:w.cell? ⟨1,0,none⟩=some (.iface 275 (.pointer (some a)))
theorem EnvE.below{a:Addr}{w w':World}(h:EnvE a w)(hb:Aa w w'):EnvE a w':=⟨h.env.below hb,(hb.cell (World.block_lt_of_cell? _ _ h.fails)).trans h.fails⟩
def ji(a:Addr)(w:World)(e:Ending)(w':World):Prop:=e=.panicked [{ v:=.iface 275 (.pointer (some a)),recovered:=false }]/\Aa w w'
theorem yw(w:World):Calls prog 128 #[.bool true] w (ja1 w):=by
 go_enter func128,ntmps128;go_wp2;go_end0;exact⟨rfl,Au _ _⟩
theorem yaL(v:Value)(w:World):(Instr.typeAssert (.iface 275 v) 20 119 true).run prog w=.ok (.tuple #[.iface 275 v,.bool true]) w:=run_typeAssert_hasB underlying119 kr9 v _ w
theorem kab(w:World):(Instr.typeAssert .nilIface 20 119 true).run prog w=.ok (.tuple #[.nilIface,.bool false]) w:=by kernel_rfl
def jcZ(Pr:Iv->Prop)(w:World)(e:Ending)(w':World):Prop:=∃ a,Pr a/\e=.returned (I a)/\Aa w w'
def zda(Pr:Iv->Prop)(w:World)(e:Ending)(w':World):Prop:=∃ a,Pr a/\e=.returned (.tuple #[I a,.int .i64 0])/\Aa w w'
theorem vcS(bp bq:Nat)(w:World) :
  CallsD prog 163 #[.pointer (some ⟨bp,0,none⟩),.pointer (some ⟨bq,0,none⟩)] .returning w fun e u' w'=>e=.returned (.tuple #[])/\u'=.returning/\w'=w:=by
 have hta:=kab;refine callsD_of_wpS func163 rfl fun c₀ cs hu => ?_
 have e:(#[.pointer (some ⟨bp,0,none⟩),.pointer (some ⟨bq,0,none⟩)]++Array.replicate (f163.ntmps-(#[.pointer (some ⟨bp,0,none⟩),.pointer (some ⟨bq,0,none⟩)]:Array Value).size) undef:Array Value)=#[.pointer (some ⟨bp,0,none⟩),.pointer (some ⟨bq,0,none⟩),undef,undef,undef,undef,undef,undef,undef,undef,undef,undef,undef,undef,undef,undef,undef]:=by kernel_rfl
 rw[e];apply wpS_seq;apply wpS_region;simp[wpOpsS,go_sem,recoverD,hu,Exit.thenS,hta];refine wpS_of_wp ?_;go_hide hQ;go_wp2;subst hQ
 cases c₀
 simp_all[bodyPostS,results,results163]
theorem ya5(F:FuncId)(caps:Array Value)(s n:Nat)(Pr:Iv->Prop)(w:World)(eg:∀ args w,(callFunc F args).run prog w=.ok (.enter F args) w)
  (hv:∀ W,Aa w W->Calls prog 164 #[.slice (some ⟨s,0,none⟩) n n,.func (.func 165) #[] #[]] W (qa false W))
  (h:∀ W,Aa w W->Calls prog F caps W (jcZ Pr W)) :
  Calls prog 125 #[.func (.func F) #[] caps,.slice (some ⟨s,0,none⟩) n n] w (zda Pr w):=by
 have hmf:∀(fn:Fn) (first cap:Array Value) (w:World),(Instr.makeFunc fn first cap).run prog w=.ok (.func fn first cap) w:=fun _ _ _ _=>rfl
 have hB:=Ab w;go_enter_defers func125,ntmps125;go_wp2_with fail;refine za (fun X=>Aa w X/\Row X w.heap.size oI0/\Row X (w.heap.size+1) (.cells #[.int .i64 0] 38)) ⟨ycK,C4,C4⟩ ?_;clear hB;rintro W1⟨hB,rp,rq⟩;refine(hv _ hB).mono ?_;rintro e W2⟨rfl,h1⟩;replace hB:=Em hB h1;replace rp:=Ae rp h1;replace rq:=Ae rq h1;clear h1;go_wp2_with fail;refine(yw _).mono ?_;rintro e W3⟨rfl,h1⟩;replace hB:=Em hB h1;replace rp:=Ae rp h1;replace rq:=Ae rq h1;clear h1;have h':=h _ hB;clear h hv;go_wp2_with (go_at_fn F;refine h'.mono ?_;rintro e W4⟨a,pa,rfl,h1⟩;replace hB:=Em hB h1;replace rp:=Ae rp h1;replace rq:=Ae rq h1;have sp:=AM rp;obtain⟨sq,cq,fq⟩:=Bi rq;unfold I);refine leaves_cons (f:=163) (args:=#[.pointer (some ⟨w.heap.size,0,none⟩),.pointer (some ⟨w.heap.size+1,0,none⟩)]) (by simp) (by simp[go_sem]) ?_;refine(vcS _ _ _).mono ?_;rintro e u' w''⟨rfl,rfl,hw⟩;have sB:=hB.size;obtain⟨hB',rp',rq'⟩:Aa w w''/\Row w'' w.heap.size (oI a.lo a.hi)/\Row w'' (w.heap.size+1) (.cells #[.int .i64 0] 38):=by
  rw[hw];exact⟨ycK,vcZ,zc0⟩
 clear hw;obtain⟨tp,dp0,dp1,dp2,dp3,_gp0,_gp1,_gp2,_gp3⟩:=AM rp';obtain⟨tq,dq,_gq⟩:=Bi rq';simp only[Leaves,settle];exact⟨.tuple #[.agg #[.string (S a.lo.num),.string (S (a.lo.den:Int)),.string (S a.hi.num),.string (S (a.hi.den:Int))],.int .i64 0],by simp[results,results125,go_sem,dp0,dp1,dp2,dp3,dq],a,pa,rfl,hB'⟩
open Go.ChangeShapes Go.WideShapes Go.ChangeAt Go.WideMaps Go.Joins
theorem zcT:ownKnob prog.godebug=none:=by kernel_rfl
theorem jdc:prog.globalNamed "internal/strconv.uint64pow10" = some 3:=by kernel_rfl
theorem jcj:(prog.globals[3]?).map (·.type)=some 259:=by kernel_rfl
theorem yce:prog.cellsOf 259=20:=by kernel_rfl
theorem vce:prog.cellsOf 234=1:=by kernel_rfl
theorem jcS:prog.globalNamed "strconv.ErrRange" = some 7:=by kernel_rfl
theorem vbC:(prog.globals[7]?).map (·.type)=some 119:=by kernel_rfl
theorem qcC:prog.globalNamed "strconv.ErrSyntax" = some 6:=by kernel_rfl
theorem ybh:(prog.globals[6]?).map (·.type)=some 119:=by kernel_rfl
theorem vct:prog.globalNamed "yardstick/enclosure.errFails" = some 1:=by kernel_rfl
theorem ybC:(prog.globals[1]?).map (·.type)=some 119:=by kernel_rfl
theorem yba : "*" ++ "errors.errorString" = "*errors.errorString" := by decide
theorem ybw(u:TypeId)(h:prog.typeName? 3 u=some "*errors.errorString"):u=275 :=
 typeName_ptr_named (nm := "errors.errorString") (by rw[yba];kernel_rfl) kr9 dd u (by rw[yba];exact h)
theorem qaf{P:Program}{W:World}{n nm:String}{d:DataW Unit}{g:Nat}{ti:TypeId}{ms:Array (String × TypeId)}(h:VarReads P W n (.iface nm d))(hg:P.globalNamed n=some g)(ht:(P.globals[g]?).map (·.type)=some ti)(hi:P.underlying ti=some (.interface ms)) :
  ∃ te pe,W.cell? ⟨g,0,none⟩=some (.iface te pe):=by
 obtain⟨g',t',cs,fuel,p,hg',ht',hvar,hd⟩:=h;obtain rfl:=Di (hg.symm.trans hg');obtain rfl:=Di (ht.symm.trans ht');have hc:=World.var?_cell hg hvar 0;have hc':W.cell? ⟨g,0,none⟩=cs.toList[0]? := by rw[hc];simp
 generalize cs.toList=l at hd hc'
 cases fuel with
 | zero=>simp[DataW.trod]at hd
 | succ k =>
  rcases l with _|⟨v,_|⟨v',l⟩⟩
  ·simp[DataW.trod,hi]at hd
  ·cases v with
   | iface te pe=>exact⟨te,pe,by simpa using hc'⟩
   | _=>simp[DataW.trod,hi]at hd
  ·simp[DataW.trod,hi]at hd
theorem zP{a:Int}(h:(Lit.int .i64 a).wf=true):jo a:=by
 have h2 : -9223372036854775808<=a/\a<=9223372036854775807:=by simpa[Lit.wf,IntKind.min,IntKind.max,IntKind.signed,IntKind.bits]using h
 exact h2
abbrev lawLaid8:List (String × DataW Unit):=Rows.affineMatchesReferenceRow.laid
theorem ka4{W:World}(h:laidMetH prog lawLaid8 W):Env W:=by
 rw[MakeChecks.laidMetH_plain _ _ _ kr9]at h;refine⟨?_,qaf (Lib.laidMet.reads h (.tail _ (.tail _ (.tail _ (.tail _ (.tail _ (.head _))))))) qcC ybh underlying119,qaf (Lib.laidMet.reads h (.tail _ (.tail _ (.tail _ (.tail _ (.head _)))))) jcS vbC underlying119⟩;exact Lib.tabIs_of_head (rest:=lawLaid8.drop 3) jdc jcj underlying259 underlying234 vce yce h.tail.tail
noncomputable def jaE (os:Os):World:=World.laidAll prog os lawLaid8
theorem vbX(os:Os)(args:Array Value):laidMetH prog lawLaid8 ((jaE os).forCall (fun _ _=>0) ⟨#[],args,[]⟩).memory:=by
 rw[MakeChecks.laidMetH_plain _ _ _ kr9];exact laidMet_laidAll _ kr9 kr9
end Go.Proofs.YtdiecekagiledaaGreatDoor
