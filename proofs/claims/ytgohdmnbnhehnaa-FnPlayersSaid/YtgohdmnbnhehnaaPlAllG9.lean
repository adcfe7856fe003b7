import Derived.Test.YtgohdmnbnhehnaaPlAllG2
import Derived.Test.YtgohdmnbnhehnaaPlAllG0
import Derived.Test.YtgohdmnbnhehnaaPlAllG3
import Derived.Test.YtgohdmnbnhehnaaPlAllG8
import Derived.Deep.RegionWith

