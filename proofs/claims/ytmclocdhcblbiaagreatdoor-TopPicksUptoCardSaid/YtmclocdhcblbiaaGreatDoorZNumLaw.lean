/- Lemmas; conditions: as each states. -/
import Derived.Test.YtmclocdhcblbiaaGreatDoorZTypeLaw
set_option maxHeartbeats 4000000
namespace Go.Proofs.YtmclocdhcblbiaaGreatDoor
open Go.RowKit
def zcC(which a b:Int):Int :=
 if which=1 then wrap64 (a+b) else if which=2 then wrap64 (a-b) else if which=3 then wrap64 (a*b)
 else if which=6 then bits .and .i64 a b else if which=7 then bits .or .i64 a b else if which=8 then bits .xor .i64 a b
 else if which=12 then wrap64 (-a) else if which=4 then (if b=0 then 0 else wrap64 (a.tdiv b)) else if which=5 then (if b=0 then 0 else a.tmod b) else 0
def zdd(which b:Int):Bool :=
 which==1||which==2||which==3||which==6||which==7||which==8||which==12||((which==4||which==5)&&b != 0)
def zb6(which a d:Int)(i32:Bool):Int :=
 if i32 then
  (if which=9 then wrap64 (a*2 ^ (d % 32).toNat) else if which=10 then a/2 ^ (d % 32).toNat else wrap64 ((a % 4294967296)/2 ^ (d % 32).toNat))
 else
  (if which=9 then wrap64 (a*2 ^ (d % 64).toNat) else if which=10 then a/2 ^ (d % 64).toNat else wrap64 (IntKind.u64.wrap a/2 ^ (d % 64).toNat))
def ofN(I:Bool)(which a b:Int):Int :=
 if I then wrap32 (if 9<=which/\which<=11 then zb6 which a b true else zcC which a b) else (if 9<=which/\which<=11 then zb6 which a b false else zcC which a b)
def ofB(which b:Int):Bool:=(decide (9<=which)&&decide (which<=11))||zdd which b
